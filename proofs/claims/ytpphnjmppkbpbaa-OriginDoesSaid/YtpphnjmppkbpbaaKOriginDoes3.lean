/- What the law OriginDoes leans on (part 4 of 7): Go functions as plain functions, that the code comes to them, and what these answer. -/
import Derived.Test.YtpphnjmppkbpbaaKOriginDoes1
import Derived.Test.YtpphnjmppkbpbaaKOriginDoes2
namespace Go.Proofs.Ytpphnjmppkbpbaa.PAll
open Go.RowKit Go.Proofs.Ytpphnjmppkbpbaa.Xw Go.Proofs.YtpphnjmppkbpbaaW.PrintWords Go.Proofs.YtpphnjmppkbpbaaW.PrintLast Go.Proofs.YtpphnjmppkbpbaaW.PrintMore
attribute [local go_sem] max2_int min2_int max_two min_two max_three min_three max_four min_four
set_option linter.unusedVariables false
set_option linter.unusedSimpArgs false
mutual
def r4Cont.j0 : Nat → ByteArray → ByteArray → Bool → Bool → Int → Int → Int → Option (Bool × Int × Int × Int × Int)
  | 0, _, _, _, _, _, _, _ => none
  | k + 1, x8, x9, x44, x216000, x216001, x216002, x216003 => if x44 = true then (some (false, 0, 0, 0, 3)) else (if x8.toList = ([42] : List UInt8) then (r4Cont.j1 k x9 false x216000 x216001 x216002 x216003) else ((r1Cut.f k x8 45).bind fun bt223 => ((r1Pars.f k bt223.1).bind fun bt226 => ((r1Pars.f k bt223.2.1).bind fun bt228 => (if bt223.2.2 = true then (if bt226.2 = 3 then (some (false, 0, 0, 0, 3)) else (if bt228.2 = 3 then (some (false, 0, 0, 0, 3)) else (if bt226.2 = 0 then (r4Cont.j1 k x9 (bt228.2 != 0) true bt226.1 (wrap64 (bt228.1 + 1)) x216003) else (r4Cont.j1 k x9 true true bt226.1 (wrap64 (bt228.1 + 1)) x216003)))) else (some (false, 0, 0, 0, 3)))))))
def r4Cont.j1 : Nat → ByteArray → Bool → Bool → Int → Int → Int → Option (Bool × Int × Int × Int × Int)
  | 0, _, _, _, _, _, _ => none
  | k + 1, x9, x11, x216000, x216001, x216002, x216003 => if x9.toList = ([42] : List UInt8) then (r4Cont.j2 k x11 x216000 x216001 x216002 x216003) else ((r1Pars.f k x9).bind fun bt230 => (if bt230.2 = 3 then (some (false, 0, 0, 0, 3)) else (if x11 = true then (r4Cont.j2 k true x216000 x216001 x216002 bt230.1) else (r4Cont.j2 k (bt230.2 != 0) x216000 x216001 x216002 bt230.1))))
def r4Cont.j2 : Nat → Bool → Bool → Int → Int → Int → Option (Bool × Int × Int × Int × Int)
  | 0, _, _, _, _, _ => none
  | k + 1, x11, x216000, x216001, x216002, x216003 => if x11 = true then (some (false, 0, 0, 0, 9)) else ((r4RC.f k x216000 x216001 x216002 x216003).bind fun t232 => (if t232 = true then (some (x216000, x216001, x216002, x216003, 0)) else (some (false, 0, 0, 0, 3))))
end
def r4Cont.f (k : Nat) (a0 : ByteArray) : Option (Bool × Int × Int × Int × Int) := (r1Cut.f k a0 32).bind fun bt216 => ((r1Cut.f k bt216.2.1 47).bind fun bt219 => (if bt216.2.2 = true then (if bt219.2.2 = true then ((r1Low.f k bt216.1).bind fun t222 => (r4Cont.j0 k bt219.1 bt219.2.1 (t222.toList != ([98, 121, 116, 101, 115] : List UInt8)) false 0 0 (-1))) else (r4Cont.j0 k bt219.1 bt219.2.1 true false 0 0 (-1))) else (r4Cont.j0 k bt219.1 bt219.2.1 true false 0 0 (-1))))
theorem r4Cont.mono_l : ∀ k, (∀ y0 y1 y2 y3 y4 y5 y6, LeO (r4Cont.j0 k y0 y1 y2 y3 y4 y5 y6) (r4Cont.j0 (k + 1) y0 y1 y2 y3 y4 y5 y6)) ∧ (∀ y0 y1 y2 y3 y4 y5, LeO (r4Cont.j1 k y0 y1 y2 y3 y4 y5) (r4Cont.j1 (k + 1) y0 y1 y2 y3 y4 y5)) ∧ (∀ y0 y1 y2 y3 y4, LeO (r4Cont.j2 k y0 y1 y2 y3 y4) (r4Cont.j2 (k + 1) y0 y1 y2 y3 y4))
  | 0 => ⟨fun _ _ _ _ _ _ _ r h => by simp [r4Cont.j0] at h, fun _ _ _ _ _ _ r h => by simp [r4Cont.j1] at h, fun _ _ _ _ _ r h => by simp [r4Cont.j2] at h⟩
  | k + 1 => by
    obtain ⟨ih0, ih1, ih2⟩ := r4Cont.mono_l k
    refine ⟨?_, ?_, ?_⟩
    · intro y0 y1 y2 y3 y4 y5 y6
      unfold r4Cont.j0
      repeat' first
      | (with_reducible exact ih0 _ _ _ _ _ _ _)
      | (with_reducible exact ih1 _ _ _ _ _ _)
      | (with_reducible exact ih2 _ _ _ _ _)
      | (with_reducible exact r1Cut.mono _ _ _)
      | (with_reducible exact r1Low.mono _ _)
      | (with_reducible exact r1Pars.mono _ _)
      | (with_reducible exact r4RC.mono _ _ _ _ _)
      | (with_reducible exact LeO.refl _)
      | (with_reducible exact LeO.none _)
      | (with_reducible refine LeO.ite ?_ ?_)
      | (with_reducible refine LeO.bind ?_ (fun _ => ?_))
      | exact ih0 _ _ _ _ _ _ _
      | exact ih1 _ _ _ _ _ _
      | exact ih2 _ _ _ _ _
      | exact r1Cut.mono _ _ _
      | exact r1Low.mono _ _
      | exact r1Pars.mono _ _
      | exact r4RC.mono _ _ _ _ _
      | exact LeO.none _
      | refine LeO.ite ?_ ?_
      | refine LeO.bind ?_ (fun _ => ?_)
    · intro y0 y1 y2 y3 y4 y5
      unfold r4Cont.j1
      repeat' first
      | (with_reducible exact ih0 _ _ _ _ _ _ _)
      | (with_reducible exact ih1 _ _ _ _ _ _)
      | (with_reducible exact ih2 _ _ _ _ _)
      | (with_reducible exact r1Cut.mono _ _ _)
      | (with_reducible exact r1Low.mono _ _)
      | (with_reducible exact r1Pars.mono _ _)
      | (with_reducible exact r4RC.mono _ _ _ _ _)
      | (with_reducible exact LeO.refl _)
      | (with_reducible exact LeO.none _)
      | (with_reducible refine LeO.ite ?_ ?_)
      | (with_reducible refine LeO.bind ?_ (fun _ => ?_))
      | exact ih0 _ _ _ _ _ _ _
      | exact ih1 _ _ _ _ _ _
      | exact ih2 _ _ _ _ _
      | exact r1Cut.mono _ _ _
      | exact r1Low.mono _ _
      | exact r1Pars.mono _ _
      | exact r4RC.mono _ _ _ _ _
      | exact LeO.none _
      | refine LeO.ite ?_ ?_
      | refine LeO.bind ?_ (fun _ => ?_)
    · intro y0 y1 y2 y3 y4
      unfold r4Cont.j2
      repeat' first
      | (with_reducible exact ih0 _ _ _ _ _ _ _)
      | (with_reducible exact ih1 _ _ _ _ _ _)
      | (with_reducible exact ih2 _ _ _ _ _)
      | (with_reducible exact r1Cut.mono _ _ _)
      | (with_reducible exact r1Low.mono _ _)
      | (with_reducible exact r1Pars.mono _ _)
      | (with_reducible exact r4RC.mono _ _ _ _ _)
      | (with_reducible exact LeO.refl _)
      | (with_reducible exact LeO.none _)
      | (with_reducible refine LeO.ite ?_ ?_)
      | (with_reducible refine LeO.bind ?_ (fun _ => ?_))
      | exact ih0 _ _ _ _ _ _ _
      | exact ih1 _ _ _ _ _ _
      | exact ih2 _ _ _ _ _
      | exact r1Cut.mono _ _ _
      | exact r1Low.mono _ _
      | exact r1Pars.mono _ _
      | exact r4RC.mono _ _ _ _ _
      | exact LeO.none _
      | refine LeO.ite ?_ ?_
      | refine LeO.bind ?_ (fun _ => ?_)
theorem r4Cont.mono : ∀ a0 k, LeO (r4Cont.f k a0) (r4Cont.f (k + 1) a0) := by
  intro a0 k
  obtain ⟨ih0, ih1, ih2⟩ := r4Cont.mono_l k
  unfold r4Cont.f
  repeat' first
      | (with_reducible exact ih0 _ _ _ _ _ _ _)
      | (with_reducible exact ih1 _ _ _ _ _ _)
      | (with_reducible exact ih2 _ _ _ _ _)
      | (with_reducible exact r1Cut.mono _ _ _)
      | (with_reducible exact r1Low.mono _ _)
      | (with_reducible exact r1Pars.mono _ _)
      | (with_reducible exact r4RC.mono _ _ _ _ _)
      | (with_reducible exact LeO.refl _)
      | (with_reducible exact LeO.none _)
      | (with_reducible refine LeO.ite ?_ ?_)
      | (with_reducible refine LeO.bind ?_ (fun _ => ?_))
      | exact ih0 _ _ _ _ _ _ _
      | exact ih1 _ _ _ _ _ _
      | exact ih2 _ _ _ _ _
      | exact r1Cut.mono _ _ _
      | exact r1Low.mono _ _
      | exact r1Pars.mono _ _
      | exact r4RC.mono _ _ _ _ _
      | exact LeO.none _
      | refine LeO.ite ?_ ?_
      | refine LeO.bind ?_ (fun _ => ?_)
set_option maxHeartbeats 8000000 in
set_option maxRecDepth 100000 in
theorem r4Cont.calls (k : Nat) (a0 : ByteArray) (r1 : Bool) (r2 : Int) (r3 : Int) (r4 : Int) (r5 : Int) (w : World) (h : r4Cont.f k a0 = some (r1, r2, r3, r4, r5)) :
    Calls Try.prog 24 #[.string a0] w fun e w' => e = .returned (.tuple #[.agg #[.bool r1, .int .i64 r2, .int .i64 r3, .int .i64 r4], .int .i64 r5]) ∧ Below w.heap.size w w' := by
  have hu59 := Try.underlying59
  have hu30 := Try.underlying30
  have HB := AsZ.mk (Below.refl w.heap.size w)
  have H : ((r1Cut.f k a0 32).bind fun bt216 => ((r1Cut.f k bt216.2.1 47).bind fun bt219 => (if bt216.2.2 = true then (if bt219.2.2 = true then ((r1Low.f k bt216.1).bind fun t222 => (r4Cont.j0 k bt219.1 bt219.2.1 (t222.toList != ([98, 121, 116, 101, 115] : List UInt8)) false 0 0 (-1))) else (r4Cont.j0 k bt219.1 bt219.2.1 true false 0 0 (-1))) else (r4Cont.j0 k bt219.1 bt219.2.1 true false 0 0 (-1))))) = some (r1, r2, r3, r4, r5) := h
  clear h
  replace H := Option.bind_eq_some_iff.mp H
  obtain ⟨⟨t216, t217, t218⟩, A20, H⟩ := H
  replace H : ((r1Cut.f k t217 47).bind fun bt219 => (if t218 = true then (if bt219.2.2 = true then ((r1Low.f k t216).bind fun t222 => (r4Cont.j0 k bt219.1 bt219.2.1 (t222.toList != ([98, 121, 116, 101, 115] : List UInt8)) false 0 0 (-1))) else (r4Cont.j0 k bt219.1 bt219.2.1 true false 0 0 (-1))) else (r4Cont.j0 k bt219.1 bt219.2.1 true false 0 0 (-1)))) = some (r1, r2, r3, r4, r5) := H
  have A2 := AsZ.mk A20
  clear A20
  replace H := Option.bind_eq_some_iff.mp H
  obtain ⟨⟨t219, t220, t221⟩, A30, H⟩ := H
  replace H : (if t218 = true then (if t221 = true then ((r1Low.f k t216).bind fun t222 => (r4Cont.j0 k t219 t220 (t222.toList != ([98, 121, 116, 101, 115] : List UInt8)) false 0 0 (-1))) else (r4Cont.j0 k t219 t220 true false 0 0 (-1))) else (r4Cont.j0 k t219 t220 true false 0 0 (-1))) = some (r1, r2, r3, r4, r5) := H
  have A3 := AsZ.mk A30
  clear A30
  have HC4 := AsZ.mk H
  clear H
  go_enter Try.func24, Try.ntmps24
  go_upto_region 4 with (first | ((with_reducible refine gDs (N := 2) rfl ?_); refine bEv ?hg (N := 2) ?hd (cs := #[.bool false, .int .i64 0, .int .i64 0, .int .i64 0]) (t := 59) ?hr ?_; (case hd => rfl); (case hg => rfl); (case hr => first | (go_simp; done) | (go_simp; rfl)); intro gb214 hg w5 hbox hb; have n0_ := AsZ.mk (tBl (by repeat (first | (with_reducible first | exact HB.out | apply aBl | apply pBd | apply dBl) | exact HB.out)) hb); have n1_ := AsZ.mk (hbox); have n2_ := AsZ.mk ((by rw [hg]; exact (zBl (by repeat (first | (with_reducible first | exact HB.out | apply aBl | apply pBd | apply dBl) | exact HB.out))) : w.heap.size ≤ gb214)); have n3_ := AsZ.mk ((by rw [hg]; exact (zBl (by repeat (first | (with_reducible first | exact HB.out | apply aBl | apply pBd | apply dBl) | exact HB.out))) : w.heap.size ≤ gb214)); clear HB; have HB := n0_; have BK214 := n1_; have GW214 := n2_; have GE214 := n3_; clear n0_ n1_ n2_ n3_; clear hb hbox hg) | ((with_reducible refine gDs (N := 4) rfl ?_); refine bEv ?hg (N := 4) ?hd (cs := #[.bool false, .int .i64 0, .int .i64 0, .int .i64 0]) (t := 59) ?hr ?_; (case hd => rfl); (case hg => rfl); (case hr => first | (go_simp; done) | (go_simp; rfl)); intro gb215 hg w6 hbox hb; have n0_ := AsZ.mk (bBl (g := gb214) (o := .cells #[.bool false, .int .i64 0, .int .i64 0, .int .i64 0] 59 (0, 0)) (by (with_reducible repeat first | apply bDn | apply bDr | apply bAl); exact BK214.out) hb); have n1_ := AsZ.mk (tBl (by repeat (first | (with_reducible first | exact HB.out | apply aBl | apply pBd | apply dBl | refine sBl ?_ GE214.out) | exact HB.out)) hb); have n2_ := AsZ.mk (hbox); have n3_ := AsZ.mk ((by rw [hg]; exact (zBl (by repeat (first | (with_reducible first | exact HB.out | apply aBl | apply pBd | apply dBl | refine sBl ?_ GE214.out) | exact HB.out))) : w.heap.size ≤ gb215)); have n4_ := AsZ.mk ((by rw [hg]; exact (zBl (by repeat (first | (with_reducible first | exact HB.out | apply aBl | apply pBd | apply dBl | refine sBl ?_ GE214.out) | exact HB.out))) : w.heap.size ≤ gb215)); have n5_ := AsZ.mk ((by rw [hg]; exact Nat.ne_of_lt (bLt (g := gb214) (o := .cells #[.bool false, .int .i64 0, .int .i64 0, .int .i64 0] 59 (0, 0)) (by (with_reducible repeat first | apply bDn | apply bDr | apply bAl); exact BK214.out)) : gb214 ≠ gb215)); have n6_ := AsZ.mk ((by rw [hg]; exact Nat.ne_of_gt (bLt (g := gb214) (o := .cells #[.bool false, .int .i64 0, .int .i64 0, .int .i64 0] 59 (0, 0)) (by (with_reducible repeat first | apply bDn | apply bDr | apply bAl); exact BK214.out)) : gb215 ≠ gb214)); clear BK214; clear HB; have BK214 := n0_; have HB := n1_; have BK215 := n2_; have GW215 := n3_; have GE215 := n4_; have NB214_215 := n5_; have NB215_214 := n6_; clear n0_ n1_ n2_ n3_ n4_ n5_ n6_; clear hb hbox hg; have hnb7 := NB215_214.out; have hnc7 := NB214_215.out; obtain ⟨hcz8_0, hcz8_1, hcz8_2, hcz8_3⟩ := celN4 BK215.out; obtain ⟨hfz8_0, hfz8_1, hfz8_2, hfz8_3⟩ := fzN4 BK215.out) | ((with_reducible refine gCa (f := 35) rfl ?_); refine gLl (some 24) rfl rfl Try.func35 (by kernel_rfl) rfl #[.string a0, .int .u8 32] rfl (by (try simp only [lsD, lsE, lsF]); first | done | rfl | (simp only [lsG, lsH]; rfl)) ?_; (with_reducible refine (r1Cut.calls k a0 32 t216 t217 t218 _ A2.out).mono ?_); rintro e w' ⟨rfl, ⟨nd, rfl⟩⟩; refine ⟨_, rfl, ?_⟩) | ((with_reducible refine gCa (f := 35) rfl ?_); refine gLl (some 30) rfl rfl Try.func35 (by kernel_rfl) rfl #[.string t217, .int .u8 47] rfl (by (try simp only [lsD, lsE, lsF]); first | done | rfl | (simp only [lsG, lsH]; rfl)) ?_; (with_reducible refine (r1Cut.calls k t217 47 t219 t220 t221 _ A3.out).mono ?_); rintro e w' ⟨rfl, ⟨nd, rfl⟩⟩; refine ⟨_, rfl, ?_⟩))
  (try simp only [Act.put, lsA, lsB, lsC])
  go_cut [44] (fun v44 wc => ∃ (kq : Nat) (x44_3 : Bool), v44 = .bool x44_3 ∧ AsZ (r4Cont.j0 kq t219 t220 x44_3 false 0 0 (-1) = some (r1, r2, r3, r4, r5)) ∧ AsZ (kq ≤ k) ∧ AsZ (wc.heap[gb214]? = some (.cells #[.bool false, .int .i64 0, .int .i64 0, .int .i64 0] 59 (0, 0))) ∧ AsZ (wc.heap[gb215]? = some (.cells #[.bool false, .int .i64 0, .int .i64 0, .int .i64 (-1)] 59 (0, 0))) ∧ AsZ (Below w.heap.size w wc))
  case first =>
    have H := HC4.out
    clear HC4
    by_cases c9 : t218 = true
    · subst c9
      have H1 : (if t221 = true then ((r1Low.f k t216).bind fun t222 => (r4Cont.j0 k t219 t220 (t222.toList != ([98, 121, 116, 101, 115] : List UInt8)) false 0 0 (-1))) else (r4Cont.j0 k t219 t220 true false 0 0 (-1))) = some (r1, r2, r3, r4, r5) := by rw [if_pos rfl] at H; exact H
      clear H
      have H := H1
      clear H1
      by_cases c10 : t221 = true
      · subst c10
        have H1 : ((r1Low.f k t216).bind fun t222 => (r4Cont.j0 k t219 t220 (t222.toList != ([98, 121, 116, 101, 115] : List UInt8)) false 0 0 (-1))) = some (r1, r2, r3, r4, r5) := by rw [if_pos rfl] at H; exact H
        clear H
        have H := H1
        clear H1
        replace H := Option.bind_eq_some_iff.mp H
        obtain ⟨t222, A110, H⟩ := H
        replace H : (r4Cont.j0 k t219 t220 (t222.toList != ([98, 121, 116, 101, 115] : List UInt8)) false 0 0 (-1)) = some (r1, r2, r3, r4, r5) := H
        have A11 := AsZ.mk A110
        clear A110
        have H' := AsZ.mk H
        clear H
        go_wp2_with (first | (go_at_call 36; (with_reducible refine (r1Low.calls k t216 t222 _ A11.out).mono ?_); rintro e w12 ⟨rfl, hb⟩; have n0_ := AsZ.mk (bBl (g := gb214) (o := .cells #[.bool false, .int .i64 0, .int .i64 0, .int .i64 0] 59 (0, 0)) (by (with_reducible repeat first | apply bDn | apply bDr | apply bAl); refine bFr ?_ NB214_215.out _; (with_reducible repeat first | apply bDn | apply bDr | apply bAl); refine bFr ?_ NB214_215.out _; (with_reducible repeat first | apply bDn | apply bDr | apply bAl); refine bFr ?_ NB214_215.out _; (with_reducible repeat first | apply bDn | apply bDr | apply bAl); refine bFr ?_ NB214_215.out _; (with_reducible repeat first | apply bDn | apply bDr | apply bAl); exact BK214.out) hb); have n1_ := AsZ.mk (bBl (g := gb215) (o := .cells #[.bool false, .int .i64 0, .int .i64 0, .int .i64 (-1)] 59 (0, 0)) (by (with_reducible repeat first | apply bDn | apply bDr | apply bAl); refine bPu (cs := #[.bool false, .int .i64 0, .int .i64 0, .int .i64 0]) ?_ 3 _ rfl; (with_reducible repeat first | apply bDn | apply bDr | apply bAl); refine bPu (cs := #[.bool false, .int .i64 0, .int .i64 0, .int .i64 0]) ?_ 2 _ rfl; (with_reducible repeat first | apply bDn | apply bDr | apply bAl); refine bPu (cs := #[.bool false, .int .i64 0, .int .i64 0, .int .i64 0]) ?_ 1 _ rfl; (with_reducible repeat first | apply bDn | apply bDr | apply bAl); refine bPu (cs := #[.bool false, .int .i64 0, .int .i64 0, .int .i64 0]) ?_ 0 _ rfl; (with_reducible repeat first | apply bDn | apply bDr | apply bAl); exact BK215.out) hb); have n2_ := AsZ.mk (tBl (by repeat (first | (with_reducible first | exact HB.out | apply aBl | apply pBd | apply dBl | refine sBl ?_ GE214.out | refine sBl ?_ GE215.out) | exact HB.out)) hb); clear BK214; clear BK215; clear HB; have BK214 := n0_; have BK215 := n1_; have HB := n2_; clear n0_ n1_ n2_; (try clear hb); (try clear hb2); (try clear hk); (try clear hi)))
        go_meet
        case rel => exact ⟨_, ((t222.toList != ([98, 121, 116, 101, 115] : List UInt8))), (by first | rfl | (simp; done) | (simp [*]; done)), H', ⟨by first | omega | exact Nat.le_refl _⟩, ⟨by (with_reducible repeat first | apply bDn | apply bDr | apply bAl); exact BK214.out⟩, ⟨by (with_reducible repeat first | apply bDn | apply bDr | apply bAl); exact BK215.out⟩, ⟨by repeat (first | (with_reducible first | exact HB.out | apply aBl | apply pBd | apply dBl | refine sBl ?_ GE214.out | refine sBl ?_ GE215.out) | exact HB.out)⟩⟩
      · replace c10 := Bool.eq_false_iff.mpr c10
        subst c10
        have H1 : (r4Cont.j0 k t219 t220 true false 0 0 (-1)) = some (r1, r2, r3, r4, r5) := by rw [if_neg (show ¬ (false = true) by decide)] at H; exact H
        clear H
        have H := H1
        clear H1
        have H' := AsZ.mk H
        clear H
        go_wp2
        go_meet
        case rel => exact ⟨_, (true), (by first | rfl | (simp; done) | (simp [*]; done)), H', ⟨by first | omega | exact Nat.le_refl _⟩, ⟨by (with_reducible repeat first | apply bDn | apply bDr | apply bAl); refine bFr ?_ NB214_215.out _; (with_reducible repeat first | apply bDn | apply bDr | apply bAl); refine bFr ?_ NB214_215.out _; (with_reducible repeat first | apply bDn | apply bDr | apply bAl); refine bFr ?_ NB214_215.out _; (with_reducible repeat first | apply bDn | apply bDr | apply bAl); refine bFr ?_ NB214_215.out _; (with_reducible repeat first | apply bDn | apply bDr | apply bAl); exact BK214.out⟩, ⟨by (with_reducible repeat first | apply bDn | apply bDr | apply bAl); refine bPu (cs := #[.bool false, .int .i64 0, .int .i64 0, .int .i64 0]) ?_ 3 _ rfl; (with_reducible repeat first | apply bDn | apply bDr | apply bAl); refine bPu (cs := #[.bool false, .int .i64 0, .int .i64 0, .int .i64 0]) ?_ 2 _ rfl; (with_reducible repeat first | apply bDn | apply bDr | apply bAl); refine bPu (cs := #[.bool false, .int .i64 0, .int .i64 0, .int .i64 0]) ?_ 1 _ rfl; (with_reducible repeat first | apply bDn | apply bDr | apply bAl); refine bPu (cs := #[.bool false, .int .i64 0, .int .i64 0, .int .i64 0]) ?_ 0 _ rfl; (with_reducible repeat first | apply bDn | apply bDr | apply bAl); exact BK215.out⟩, ⟨by repeat (first | (with_reducible first | exact HB.out | apply aBl | apply pBd | apply dBl | refine sBl ?_ GE214.out | refine sBl ?_ GE215.out) | exact HB.out)⟩⟩
    · replace c9 := Bool.eq_false_iff.mpr c9
      subst c9
      have H1 : (r4Cont.j0 k t219 t220 true false 0 0 (-1)) = some (r1, r2, r3, r4, r5) := by rw [if_neg (show ¬ (false = true) by decide)] at H; exact H
      clear H
      have H := H1
      clear H1
      have H' := AsZ.mk H
      clear H
      go_wp2
      go_meet
      case rel => exact ⟨_, (true), (by first | rfl | (simp; done) | (simp [*]; done)), H', ⟨by first | omega | exact Nat.le_refl _⟩, ⟨by (with_reducible repeat first | apply bDn | apply bDr | apply bAl); refine bFr ?_ NB214_215.out _; (with_reducible repeat first | apply bDn | apply bDr | apply bAl); refine bFr ?_ NB214_215.out _; (with_reducible repeat first | apply bDn | apply bDr | apply bAl); refine bFr ?_ NB214_215.out _; (with_reducible repeat first | apply bDn | apply bDr | apply bAl); refine bFr ?_ NB214_215.out _; (with_reducible repeat first | apply bDn | apply bDr | apply bAl); exact BK214.out⟩, ⟨by (with_reducible repeat first | apply bDn | apply bDr | apply bAl); refine bPu (cs := #[.bool false, .int .i64 0, .int .i64 0, .int .i64 0]) ?_ 3 _ rfl; (with_reducible repeat first | apply bDn | apply bDr | apply bAl); refine bPu (cs := #[.bool false, .int .i64 0, .int .i64 0, .int .i64 0]) ?_ 2 _ rfl; (with_reducible repeat first | apply bDn | apply bDr | apply bAl); refine bPu (cs := #[.bool false, .int .i64 0, .int .i64 0, .int .i64 0]) ?_ 1 _ rfl; (with_reducible repeat first | apply bDn | apply bDr | apply bAl); refine bPu (cs := #[.bool false, .int .i64 0, .int .i64 0, .int .i64 0]) ?_ 0 _ rfl; (with_reducible repeat first | apply bDn | apply bDr | apply bAl); exact BK215.out⟩, ⟨by repeat (first | (with_reducible first | exact HB.out | apply aBl | apply pBd | apply dBl | refine sBl ?_ GE214.out | refine sBl ?_ GE215.out) | exact HB.out)⟩⟩
  case rest =>
    clear HC4
    try clear c1
    try clear c2
    try clear p2
    try clear c3
    try clear c7
    try clear c9
    try clear c10
    try clear hcz8_0
    try clear hcz8_1
    try clear hcz8_2
    try clear hcz8_3
    try clear hfz8_0
    try clear hfz8_1
    try clear hfz8_2
    try clear hfz8_3
    obtain ⟨kq, x44_3, rfl, HA, HJ3, BK214, BK215, HB⟩ := hcut
    cases kq with
    | zero => exact absurd HA.out (by simp [r4Cont.j0])
    | succ kj3 =>
      have H := HA.out
      clear HA
      simp only [r4Cont.j0] at H
      by_cases c13 : x44_3 = true
      · subst c13
        have H1 : (some (false, 0, 0, 0, 3)) = some (r1, r2, r3, r4, r5) := by rw [if_pos rfl] at H; exact H
        clear H
        have H := H1
        clear H1
        simp only [Option.some.injEq, Prod.mk.injEq] at H
        obtain ⟨rfl, rfl, rfl, rfl, rfl⟩ := H
        have hnb14 := NB214_215.out
        have hnc14 := NB215_214.out
        obtain ⟨hcz15_0, hcz15_1, hcz15_2, hcz15_3⟩ := celN4 BK214.out
        obtain ⟨hfz15_0, hfz15_1, hfz15_2, hfz15_3⟩ := fzN4 BK214.out
        go_wp2
        refine bodyPost_ret (results_ct rfl _ _ gb214 59 #[.bool false, .int .i64 0, .int .i64 0, .int .i64 0] (0, 0) _ rfl (by (with_reducible repeat first | apply bDn | apply bDr | apply bAl); refine bPu (cs := #[.bool false, .int .i64 0, .int .i64 0, .int .i64 0]) ?_ 3 _ rfl; (with_reducible repeat first | apply bDn | apply bDr | apply bAl); refine bPu (cs := #[.bool false, .int .i64 0, .int .i64 0, .int .i64 0]) ?_ 2 _ rfl; (with_reducible repeat first | apply bDn | apply bDr | apply bAl); refine bPu (cs := #[.bool false, .int .i64 0, .int .i64 0, .int .i64 0]) ?_ 1 _ rfl; (with_reducible repeat first | apply bDn | apply bDr | apply bAl); refine bPu (cs := #[.bool false, .int .i64 0, .int .i64 0, .int .i64 0]) ?_ 0 _ rfl; (with_reducible repeat first | apply bDn | apply bDr | apply bAl); exact BK214.out) Try.underlying59 rfl (by kernel_rfl)) rfl ?_
        exact ⟨by first | rfl | exact nEm _ | exact eEm _ | (simp [eWn, eWs] <;> rfl) | (simp [*, eWn, eWs] <;> rfl), by repeat (first | (with_reducible first | exact HB.out | apply aBl | apply pBd | apply dBl | refine sBl ?_ GE214.out | refine sBl ?_ GE215.out) | exact HB.out)⟩
      · replace c13 := Bool.eq_false_iff.mpr c13
        subst c13
        have H1 : (if t219.toList = ([42] : List UInt8) then (r4Cont.j1 kj3 t220 false false 0 0 (-1)) else ((r1Cut.f kj3 t219 45).bind fun bt223 => ((r1Pars.f kj3 bt223.1).bind fun bt226 => ((r1Pars.f kj3 bt223.2.1).bind fun bt228 => (if bt223.2.2 = true then (if bt226.2 = 3 then (some (false, 0, 0, 0, 3)) else (if bt228.2 = 3 then (some (false, 0, 0, 0, 3)) else (if bt226.2 = 0 then (r4Cont.j1 kj3 t220 (bt228.2 != 0) true bt226.1 (wrap64 (bt228.1 + 1)) (-1)) else (r4Cont.j1 kj3 t220 true true bt226.1 (wrap64 (bt228.1 + 1)) (-1))))) else (some (false, 0, 0, 0, 3))))))) = some (r1, r2, r3, r4, r5) := by rw [if_neg (show ¬ (false = true) by decide)] at H; exact H
        clear H
        have H := H1
        clear H1
        have HC16 := AsZ.mk H
        clear H
        go_upto_if 47 with (fail)
        go_cut [11] (fun v11 wc => ∃ (kq : Nat) (x11_15 : Bool) (x215000_15 : Bool) (x215001_15 : Int) (x215002_15 : Int) (x215003_15 : Int) (x216000_15 : Bool) (x216001_15 : Int) (x216002_15 : Int), v11 = .bool x11_15 ∧ AsZ (r4Cont.j1 kq t220 x11_15 x216000_15 x216001_15 x216002_15 (-1) = some (r1, r2, r3, r4, r5)) ∧ AsZ (kq ≤ kj3) ∧ AsZ (wc.heap[gb214]? = some (.cells #[.bool x215000_15, .int .i64 x215001_15, .int .i64 x215002_15, .int .i64 x215003_15] 59 (0, 0))) ∧ AsZ (wc.heap[gb215]? = some (.cells #[.bool x216000_15, .int .i64 x216001_15, .int .i64 x216002_15, .int .i64 (-1)] 59 (0, 0))) ∧ AsZ (Below w.heap.size w wc))
        case first =>
          have H := HC16.out
          clear HC16
          by_cases c17 : t219.toList = ([42] : List UInt8)
          · rw [if_pos c17] at H
            have c17b0 : (t219.toList == ([42] : List UInt8)) = true := beq_iff_eq.mpr c17
            have c17b1 : (t219.toList != ([42] : List UInt8)) = false := bne_eq_false_iff_eq.mpr c17
            clear c17
            (first | rw [c17b0] | (simp only [i64_w, i32_w]; rw [c17b0]) | skip)
            have H' := AsZ.mk H
            clear H
            go_wp2
            go_meet
            case rel => exact ⟨_, (false), (false), (0), (0), (0), (false), (0), (0), (by first | rfl | (simp; done) | (simp [*]; done)), H', ⟨by have := HJ3.out; first | omega | exact Nat.le_refl _⟩, ⟨by (with_reducible repeat first | apply bDn | apply bDr | apply bAl); exact BK214.out⟩, ⟨by (with_reducible repeat first | apply bDn | apply bDr | apply bAl); exact BK215.out⟩, ⟨by repeat (first | (with_reducible first | exact HB.out | apply aBl | apply pBd | apply dBl | refine sBl ?_ GE214.out | refine sBl ?_ GE215.out) | exact HB.out)⟩⟩
          · rw [if_neg c17] at H
            have c17b0 : (t219.toList == ([42] : List UInt8)) = false := beq_eq_false_iff_ne.mpr c17
            have c17b1 : (t219.toList != ([42] : List UInt8)) = true := bne_iff_ne.mpr c17
            (first | rw [c17b0] | (simp only [i64_w, i32_w]; rw [c17b0]) | skip)
            replace H := Option.bind_eq_some_iff.mp H
            obtain ⟨⟨t223, t224, t225⟩, A180, H⟩ := H
            replace H : ((r1Pars.f kj3 t223).bind fun bt226 => ((r1Pars.f kj3 t224).bind fun bt228 => (if t225 = true then (if bt226.2 = 3 then (some (false, 0, 0, 0, 3)) else (if bt228.2 = 3 then (some (false, 0, 0, 0, 3)) else (if bt226.2 = 0 then (r4Cont.j1 kj3 t220 (bt228.2 != 0) true bt226.1 (wrap64 (bt228.1 + 1)) (-1)) else (r4Cont.j1 kj3 t220 true true bt226.1 (wrap64 (bt228.1 + 1)) (-1))))) else (some (false, 0, 0, 0, 3))))) = some (r1, r2, r3, r4, r5) := H
            have A18 := AsZ.mk A180
            clear A180
            replace H := Option.bind_eq_some_iff.mp H
            obtain ⟨⟨t226, t227⟩, A190, H⟩ := H
            replace H : ((r1Pars.f kj3 t224).bind fun bt228 => (if t225 = true then (if t227 = 3 then (some (false, 0, 0, 0, 3)) else (if bt228.2 = 3 then (some (false, 0, 0, 0, 3)) else (if t227 = 0 then (r4Cont.j1 kj3 t220 (bt228.2 != 0) true t226 (wrap64 (bt228.1 + 1)) (-1)) else (r4Cont.j1 kj3 t220 true true t226 (wrap64 (bt228.1 + 1)) (-1))))) else (some (false, 0, 0, 0, 3)))) = some (r1, r2, r3, r4, r5) := H
            have A19 := AsZ.mk A190
            clear A190
            replace H := Option.bind_eq_some_iff.mp H
            obtain ⟨⟨t228, t229⟩, A200, H⟩ := H
            replace H : (if t225 = true then (if t227 = 3 then (some (false, 0, 0, 0, 3)) else (if t229 = 3 then (some (false, 0, 0, 0, 3)) else (if t227 = 0 then (r4Cont.j1 kj3 t220 (t229 != 0) true t226 (wrap64 (t228 + 1)) (-1)) else (r4Cont.j1 kj3 t220 true true t226 (wrap64 (t228 + 1)) (-1))))) else (some (false, 0, 0, 0, 3))) = some (r1, r2, r3, r4, r5) := H
            have A20 := AsZ.mk A200
            clear A200
            by_cases c21 : t225 = true
            · subst c21
              have H1 : (if t227 = 3 then (some (false, 0, 0, 0, 3)) else (if t229 = 3 then (some (false, 0, 0, 0, 3)) else (if t227 = 0 then (r4Cont.j1 kj3 t220 (t229 != 0) true t226 (wrap64 (t228 + 1)) (-1)) else (r4Cont.j1 kj3 t220 true true t226 (wrap64 (t228 + 1)) (-1))))) = some (r1, r2, r3, r4, r5) := by rw [if_pos rfl] at H; exact H
              clear H
              have H := H1
              clear H1
              by_cases c22 : t227 = 3
              · rw [if_pos c22] at H
                have c22b0 : (t227 == 3) = true := beq_iff_eq.mpr c22
                have c22b1 : (t227 != 3) = false := bne_eq_false_iff_eq.mpr c22
                clear c22
                simp only [Option.some.injEq, Prod.mk.injEq] at H
                obtain ⟨rfl, rfl, rfl, rfl, rfl⟩ := H
                go_wp2_with (first | ((with_reducible refine gCa (f := 35) rfl ?_); refine gLl (some 50) rfl rfl Try.func35 (by kernel_rfl) rfl #[.string t219, .int .u8 45] rfl (by (try simp only [lsD, lsE, lsF]); first | done | rfl | (simp only [lsG, lsH]; rfl)) ?_; (with_reducible refine (r1Cut.calls kj3 t219 45 t223 t224 true _ A18.out).mono ?_); rintro e w' ⟨rfl, ⟨nd, rfl⟩⟩; refine ⟨_, rfl, ?_⟩; (try (rw [drewN_self wc]; generalize hq_ : World.drewN wc _ = wc; have n0_ : AsZ (wc.heap[gb214]? = some (.cells #[.bool false, .int .i64 0, .int .i64 0, .int .i64 0] 59 (0, 0))) := ⟨by rw [← hq_]; exact (by (with_reducible repeat first | apply bDn | apply bDr | apply bAl); exact BK214.out)⟩; have n1_ : AsZ (wc.heap[gb215]? = some (.cells #[.bool false, .int .i64 0, .int .i64 0, .int .i64 (-1)] 59 (0, 0))) := ⟨by rw [← hq_]; exact (by (with_reducible repeat first | apply bDn | apply bDr | apply bAl); exact BK215.out)⟩; have n2_ : AsZ (Below w.heap.size w wc) := ⟨by rw [← hq_]; exact (by repeat (first | (with_reducible first | exact HB.out | apply aBl | apply pBd | apply dBl | refine sBl ?_ GE214.out | refine sBl ?_ GE215.out) | exact HB.out))⟩; clear BK214 BK215 HB hq_; have BK214 := n0_; have BK215 := n1_; have HB := n2_; clear n0_ n1_ n2_))) | ((with_reducible refine gCa (f := 37) rfl ?_); refine gLl (some 56) rfl rfl Try.func37 (by kernel_rfl) rfl #[.string t223] rfl (by (try simp only [lsD, lsE, lsF]); first | done | rfl | (simp only [lsG, lsH]; rfl)) ?_; (with_reducible refine (r1Pars.calls kj3 t223 t226 t227 _ A19.out).mono ?_); rintro e w' ⟨rfl, ⟨nd, rfl⟩⟩; refine ⟨_, rfl, ?_⟩; (try (rw [drewN_self wc]; generalize hq_ : World.drewN wc _ = wc; have n0_ : AsZ (wc.heap[gb214]? = some (.cells #[.bool false, .int .i64 0, .int .i64 0, .int .i64 0] 59 (0, 0))) := ⟨by rw [← hq_]; exact (by (with_reducible repeat first | apply bDn | apply bDr | apply bAl); exact BK214.out)⟩; have n1_ : AsZ (wc.heap[gb215]? = some (.cells #[.bool false, .int .i64 0, .int .i64 0, .int .i64 (-1)] 59 (0, 0))) := ⟨by rw [← hq_]; exact (by (with_reducible repeat first | apply bDn | apply bDr | apply bAl); exact BK215.out)⟩; have n2_ : AsZ (Below w.heap.size w wc) := ⟨by rw [← hq_]; exact (by repeat (first | (with_reducible first | exact HB.out | apply aBl | apply pBd | apply dBl | refine sBl ?_ GE214.out | refine sBl ?_ GE215.out) | exact HB.out))⟩; clear BK214 BK215 HB hq_; have BK214 := n0_; have BK215 := n1_; have HB := n2_; clear n0_ n1_ n2_))) | ((with_reducible refine gCa (f := 37) rfl ?_); refine gLl (some 61) rfl rfl Try.func37 (by kernel_rfl) rfl #[.string t224] rfl (by (try simp only [lsD, lsE, lsF]); first | done | rfl | (simp only [lsG, lsH]; rfl)) ?_; (with_reducible refine (r1Pars.calls kj3 t224 t228 t229 _ A20.out).mono ?_); rintro e w' ⟨rfl, ⟨nd, rfl⟩⟩; refine ⟨_, rfl, ?_⟩; (try (rw [drewN_self wc]; generalize hq_ : World.drewN wc _ = wc; have n0_ : AsZ (wc.heap[gb214]? = some (.cells #[.bool false, .int .i64 0, .int .i64 0, .int .i64 0] 59 (0, 0))) := ⟨by rw [← hq_]; exact (by (with_reducible repeat first | apply bDn | apply bDr | apply bAl); exact BK214.out)⟩; have n1_ : AsZ (wc.heap[gb215]? = some (.cells #[.bool false, .int .i64 0, .int .i64 0, .int .i64 (-1)] 59 (0, 0))) := ⟨by rw [← hq_]; exact (by (with_reducible repeat first | apply bDn | apply bDr | apply bAl); exact BK215.out)⟩; have n2_ : AsZ (Below w.heap.size w wc) := ⟨by rw [← hq_]; exact (by repeat (first | (with_reducible first | exact HB.out | apply aBl | apply pBd | apply dBl | refine sBl ?_ GE214.out | refine sBl ?_ GE215.out) | exact HB.out))⟩; clear BK214 BK215 HB hq_; have BK214 := n0_; have BK215 := n1_; have HB := n2_; clear n0_ n1_ n2_)); have hnb23 := NB214_215.out; have hnc23 := NB215_214.out; obtain ⟨hcz24_0, hcz24_1, hcz24_2, hcz24_3⟩ := celN4 BK214.out; obtain ⟨hfz24_0, hfz24_1, hfz24_2, hfz24_3⟩ := fzN4 BK214.out))
                refine bodyPost_ret (results_ct rfl _ _ gb214 59 #[.bool false, .int .i64 0, .int .i64 0, .int .i64 0] (0, 0) _ rfl (by (with_reducible repeat first | apply bDn | apply bDr | apply bAl); refine bPu (cs := #[.bool false, .int .i64 0, .int .i64 0, .int .i64 0]) ?_ 3 _ rfl; (with_reducible repeat first | apply bDn | apply bDr | apply bAl); refine bPu (cs := #[.bool false, .int .i64 0, .int .i64 0, .int .i64 0]) ?_ 2 _ rfl; (with_reducible repeat first | apply bDn | apply bDr | apply bAl); refine bPu (cs := #[.bool false, .int .i64 0, .int .i64 0, .int .i64 0]) ?_ 1 _ rfl; (with_reducible repeat first | apply bDn | apply bDr | apply bAl); refine bPu (cs := #[.bool false, .int .i64 0, .int .i64 0, .int .i64 0]) ?_ 0 _ rfl; (with_reducible repeat first | apply bDn | apply bDr | apply bAl); exact BK214.out) Try.underlying59 rfl (by kernel_rfl)) rfl ?_
                exact ⟨by first | rfl | exact nEm _ | exact eEm _ | (simp [eWn, eWs] <;> rfl) | (simp [*, eWn, eWs] <;> rfl), by repeat (first | (with_reducible first | exact HB.out | apply aBl | apply pBd | apply dBl | refine sBl ?_ GE214.out | refine sBl ?_ GE215.out) | exact HB.out)⟩
              · rw [if_neg c22] at H
                have c22b0 : (t227 == 3) = false := beq_eq_false_iff_ne.mpr c22
                have c22b1 : (t227 != 3) = true := bne_iff_ne.mpr c22
                by_cases c25 : t229 = 3
                · rw [if_pos c25] at H
                  have c25b0 : (t229 == 3) = true := beq_iff_eq.mpr c25
                  have c25b1 : (t229 != 3) = false := bne_eq_false_iff_eq.mpr c25
                  clear c25
                  simp only [Option.some.injEq, Prod.mk.injEq] at H
                  obtain ⟨rfl, rfl, rfl, rfl, rfl⟩ := H
                  go_wp2_with (first | ((with_reducible refine gCa (f := 35) rfl ?_); refine gLl (some 50) rfl rfl Try.func35 (by kernel_rfl) rfl #[.string t219, .int .u8 45] rfl (by (try simp only [lsD, lsE, lsF]); first | done | rfl | (simp only [lsG, lsH]; rfl)) ?_; (with_reducible refine (r1Cut.calls kj3 t219 45 t223 t224 true _ A18.out).mono ?_); rintro e w' ⟨rfl, ⟨nd, rfl⟩⟩; refine ⟨_, rfl, ?_⟩; (try (rw [drewN_self wc]; generalize hq_ : World.drewN wc _ = wc; have n0_ : AsZ (wc.heap[gb214]? = some (.cells #[.bool false, .int .i64 0, .int .i64 0, .int .i64 0] 59 (0, 0))) := ⟨by rw [← hq_]; exact (by (with_reducible repeat first | apply bDn | apply bDr | apply bAl); exact BK214.out)⟩; have n1_ : AsZ (wc.heap[gb215]? = some (.cells #[.bool false, .int .i64 0, .int .i64 0, .int .i64 (-1)] 59 (0, 0))) := ⟨by rw [← hq_]; exact (by (with_reducible repeat first | apply bDn | apply bDr | apply bAl); exact BK215.out)⟩; have n2_ : AsZ (Below w.heap.size w wc) := ⟨by rw [← hq_]; exact (by repeat (first | (with_reducible first | exact HB.out | apply aBl | apply pBd | apply dBl | refine sBl ?_ GE214.out | refine sBl ?_ GE215.out) | exact HB.out))⟩; clear BK214 BK215 HB hq_; have BK214 := n0_; have BK215 := n1_; have HB := n2_; clear n0_ n1_ n2_))) | ((with_reducible refine gCa (f := 37) rfl ?_); refine gLl (some 56) rfl rfl Try.func37 (by kernel_rfl) rfl #[.string t223] rfl (by (try simp only [lsD, lsE, lsF]); first | done | rfl | (simp only [lsG, lsH]; rfl)) ?_; (with_reducible refine (r1Pars.calls kj3 t223 t226 t227 _ A19.out).mono ?_); rintro e w' ⟨rfl, ⟨nd, rfl⟩⟩; refine ⟨_, rfl, ?_⟩; (try (rw [drewN_self wc]; generalize hq_ : World.drewN wc _ = wc; have n0_ : AsZ (wc.heap[gb214]? = some (.cells #[.bool false, .int .i64 0, .int .i64 0, .int .i64 0] 59 (0, 0))) := ⟨by rw [← hq_]; exact (by (with_reducible repeat first | apply bDn | apply bDr | apply bAl); exact BK214.out)⟩; have n1_ : AsZ (wc.heap[gb215]? = some (.cells #[.bool false, .int .i64 0, .int .i64 0, .int .i64 (-1)] 59 (0, 0))) := ⟨by rw [← hq_]; exact (by (with_reducible repeat first | apply bDn | apply bDr | apply bAl); exact BK215.out)⟩; have n2_ : AsZ (Below w.heap.size w wc) := ⟨by rw [← hq_]; exact (by repeat (first | (with_reducible first | exact HB.out | apply aBl | apply pBd | apply dBl | refine sBl ?_ GE214.out | refine sBl ?_ GE215.out) | exact HB.out))⟩; clear BK214 BK215 HB hq_; have BK214 := n0_; have BK215 := n1_; have HB := n2_; clear n0_ n1_ n2_))) | ((with_reducible refine gCa (f := 37) rfl ?_); refine gLl (some 61) rfl rfl Try.func37 (by kernel_rfl) rfl #[.string t224] rfl (by (try simp only [lsD, lsE, lsF]); first | done | rfl | (simp only [lsG, lsH]; rfl)) ?_; (with_reducible refine (r1Pars.calls kj3 t224 t228 t229 _ A20.out).mono ?_); rintro e w' ⟨rfl, ⟨nd, rfl⟩⟩; refine ⟨_, rfl, ?_⟩; (try (rw [drewN_self wc]; generalize hq_ : World.drewN wc _ = wc; have n0_ : AsZ (wc.heap[gb214]? = some (.cells #[.bool false, .int .i64 0, .int .i64 0, .int .i64 0] 59 (0, 0))) := ⟨by rw [← hq_]; exact (by (with_reducible repeat first | apply bDn | apply bDr | apply bAl); exact BK214.out)⟩; have n1_ : AsZ (wc.heap[gb215]? = some (.cells #[.bool false, .int .i64 0, .int .i64 0, .int .i64 (-1)] 59 (0, 0))) := ⟨by rw [← hq_]; exact (by (with_reducible repeat first | apply bDn | apply bDr | apply bAl); exact BK215.out)⟩; have n2_ : AsZ (Below w.heap.size w wc) := ⟨by rw [← hq_]; exact (by repeat (first | (with_reducible first | exact HB.out | apply aBl | apply pBd | apply dBl | refine sBl ?_ GE214.out | refine sBl ?_ GE215.out) | exact HB.out))⟩; clear BK214 BK215 HB hq_; have BK214 := n0_; have BK215 := n1_; have HB := n2_; clear n0_ n1_ n2_)); have hnb26 := NB214_215.out; have hnc26 := NB215_214.out; obtain ⟨hcz27_0, hcz27_1, hcz27_2, hcz27_3⟩ := celN4 BK214.out; obtain ⟨hfz27_0, hfz27_1, hfz27_2, hfz27_3⟩ := fzN4 BK214.out))
                  refine bodyPost_ret (results_ct rfl _ _ gb214 59 #[.bool false, .int .i64 0, .int .i64 0, .int .i64 0] (0, 0) _ rfl (by (with_reducible repeat first | apply bDn | apply bDr | apply bAl); refine bPu (cs := #[.bool false, .int .i64 0, .int .i64 0, .int .i64 0]) ?_ 3 _ rfl; (with_reducible repeat first | apply bDn | apply bDr | apply bAl); refine bPu (cs := #[.bool false, .int .i64 0, .int .i64 0, .int .i64 0]) ?_ 2 _ rfl; (with_reducible repeat first | apply bDn | apply bDr | apply bAl); refine bPu (cs := #[.bool false, .int .i64 0, .int .i64 0, .int .i64 0]) ?_ 1 _ rfl; (with_reducible repeat first | apply bDn | apply bDr | apply bAl); refine bPu (cs := #[.bool false, .int .i64 0, .int .i64 0, .int .i64 0]) ?_ 0 _ rfl; (with_reducible repeat first | apply bDn | apply bDr | apply bAl); exact BK214.out) Try.underlying59 rfl (by kernel_rfl)) rfl ?_
                  exact ⟨by first | rfl | exact nEm _ | exact eEm _ | (simp [eWn, eWs] <;> rfl) | (simp [*, eWn, eWs] <;> rfl), by repeat (first | (with_reducible first | exact HB.out | apply aBl | apply pBd | apply dBl | refine sBl ?_ GE214.out | refine sBl ?_ GE215.out) | exact HB.out)⟩
                · rw [if_neg c25] at H
                  have c25b0 : (t229 == 3) = false := beq_eq_false_iff_ne.mpr c25
                  have c25b1 : (t229 != 3) = true := bne_iff_ne.mpr c25
                  by_cases c28 : t227 = 0
                  · rw [if_pos c28] at H
                    have c28b0 : (t227 == 0) = true := beq_iff_eq.mpr c28
                    have c28b1 : (t227 != 0) = false := bne_eq_false_iff_eq.mpr c28
                    clear c28
                    have H' := AsZ.mk H
                    clear H
                    go_wp2_with (first | ((with_reducible refine gCa (f := 35) rfl ?_); refine gLl (some 50) rfl rfl Try.func35 (by kernel_rfl) rfl #[.string t219, .int .u8 45] rfl (by (try simp only [lsD, lsE, lsF]); first | done | rfl | (simp only [lsG, lsH]; rfl)) ?_; (with_reducible refine (r1Cut.calls kj3 t219 45 t223 t224 true _ A18.out).mono ?_); rintro e w' ⟨rfl, ⟨nd, rfl⟩⟩; refine ⟨_, rfl, ?_⟩; (try (rw [drewN_self wc]; generalize hq_ : World.drewN wc _ = wc; have n0_ : AsZ (wc.heap[gb214]? = some (.cells #[.bool false, .int .i64 0, .int .i64 0, .int .i64 0] 59 (0, 0))) := ⟨by rw [← hq_]; exact (by (with_reducible repeat first | apply bDn | apply bDr | apply bAl); exact BK214.out)⟩; have n1_ : AsZ (wc.heap[gb215]? = some (.cells #[.bool false, .int .i64 0, .int .i64 0, .int .i64 (-1)] 59 (0, 0))) := ⟨by rw [← hq_]; exact (by (with_reducible repeat first | apply bDn | apply bDr | apply bAl); exact BK215.out)⟩; have n2_ : AsZ (Below w.heap.size w wc) := ⟨by rw [← hq_]; exact (by repeat (first | (with_reducible first | exact HB.out | apply aBl | apply pBd | apply dBl | refine sBl ?_ GE214.out | refine sBl ?_ GE215.out) | exact HB.out))⟩; clear BK214 BK215 HB hq_; have BK214 := n0_; have BK215 := n1_; have HB := n2_; clear n0_ n1_ n2_))) | ((with_reducible refine gCa (f := 37) rfl ?_); refine gLl (some 56) rfl rfl Try.func37 (by kernel_rfl) rfl #[.string t223] rfl (by (try simp only [lsD, lsE, lsF]); first | done | rfl | (simp only [lsG, lsH]; rfl)) ?_; (with_reducible refine (r1Pars.calls kj3 t223 t226 t227 _ A19.out).mono ?_); rintro e w' ⟨rfl, ⟨nd, rfl⟩⟩; refine ⟨_, rfl, ?_⟩; (try (rw [drewN_self wc]; generalize hq_ : World.drewN wc _ = wc; have n0_ : AsZ (wc.heap[gb214]? = some (.cells #[.bool false, .int .i64 0, .int .i64 0, .int .i64 0] 59 (0, 0))) := ⟨by rw [← hq_]; exact (by (with_reducible repeat first | apply bDn | apply bDr | apply bAl); exact BK214.out)⟩; have n1_ : AsZ (wc.heap[gb215]? = some (.cells #[.bool false, .int .i64 0, .int .i64 0, .int .i64 (-1)] 59 (0, 0))) := ⟨by rw [← hq_]; exact (by (with_reducible repeat first | apply bDn | apply bDr | apply bAl); exact BK215.out)⟩; have n2_ : AsZ (Below w.heap.size w wc) := ⟨by rw [← hq_]; exact (by repeat (first | (with_reducible first | exact HB.out | apply aBl | apply pBd | apply dBl | refine sBl ?_ GE214.out | refine sBl ?_ GE215.out) | exact HB.out))⟩; clear BK214 BK215 HB hq_; have BK214 := n0_; have BK215 := n1_; have HB := n2_; clear n0_ n1_ n2_))) | ((with_reducible refine gCa (f := 37) rfl ?_); refine gLl (some 61) rfl rfl Try.func37 (by kernel_rfl) rfl #[.string t224] rfl (by (try simp only [lsD, lsE, lsF]); first | done | rfl | (simp only [lsG, lsH]; rfl)) ?_; (with_reducible refine (r1Pars.calls kj3 t224 t228 t229 _ A20.out).mono ?_); rintro e w' ⟨rfl, ⟨nd, rfl⟩⟩; refine ⟨_, rfl, ?_⟩; (try (rw [drewN_self wc]; generalize hq_ : World.drewN wc _ = wc; have n0_ : AsZ (wc.heap[gb214]? = some (.cells #[.bool false, .int .i64 0, .int .i64 0, .int .i64 0] 59 (0, 0))) := ⟨by rw [← hq_]; exact (by (with_reducible repeat first | apply bDn | apply bDr | apply bAl); exact BK214.out)⟩; have n1_ : AsZ (wc.heap[gb215]? = some (.cells #[.bool false, .int .i64 0, .int .i64 0, .int .i64 (-1)] 59 (0, 0))) := ⟨by rw [← hq_]; exact (by (with_reducible repeat first | apply bDn | apply bDr | apply bAl); exact BK215.out)⟩; have n2_ : AsZ (Below w.heap.size w wc) := ⟨by rw [← hq_]; exact (by repeat (first | (with_reducible first | exact HB.out | apply aBl | apply pBd | apply dBl | refine sBl ?_ GE214.out | refine sBl ?_ GE215.out) | exact HB.out))⟩; clear BK214 BK215 HB hq_; have BK214 := n0_; have BK215 := n1_; have HB := n2_; clear n0_ n1_ n2_)); have hnb29 := NB215_214.out; have hnc29 := NB214_215.out; obtain ⟨hcz30_0, hcz30_1, hcz30_2, hcz30_3⟩ := celN4 BK215.out; obtain ⟨hfz30_0, hfz30_1, hfz30_2, hfz30_3⟩ := fzN4 BK215.out))
                    go_meet
                    case rel => exact ⟨_, ((t229 != 0)), (false), (0), (0), (0), (true), (t226), (wrap64 (t228 + 1)), (by first | rfl | (simp; done) | (simp [*]; done)), H', ⟨by have := HJ3.out; first | omega | exact Nat.le_refl _⟩, ⟨by (with_reducible repeat first | apply bDn | apply bDr | apply bAl); refine bFr ?_ NB214_215.out _; (with_reducible repeat first | apply bDn | apply bDr | apply bAl); refine bFr ?_ NB214_215.out _; (with_reducible repeat first | apply bDn | apply bDr | apply bAl); refine bFr ?_ NB214_215.out _; (with_reducible repeat first | apply bDn | apply bDr | apply bAl); exact BK214.out⟩, ⟨by (with_reducible repeat first | apply bDn | apply bDr | apply bAl); refine bPu (cs := #[.bool true, .int .i64 t226, .int .i64 0, .int .i64 (-1)]) ?_ 2 _ rfl; (with_reducible repeat first | apply bDn | apply bDr | apply bAl); refine bPu (cs := #[.bool true, .int .i64 0, .int .i64 0, .int .i64 (-1)]) ?_ 1 _ rfl; (with_reducible repeat first | apply bDn | apply bDr | apply bAl); refine bPu (cs := #[.bool false, .int .i64 0, .int .i64 0, .int .i64 (-1)]) ?_ 0 _ rfl; (with_reducible repeat first | apply bDn | apply bDr | apply bAl); exact BK215.out⟩, ⟨by repeat (first | (with_reducible first | exact HB.out | apply aBl | apply pBd | apply dBl | refine sBl ?_ GE214.out | refine sBl ?_ GE215.out) | exact HB.out)⟩⟩
                  · rw [if_neg c28] at H
                    have c28b0 : (t227 == 0) = false := beq_eq_false_iff_ne.mpr c28
                    have c28b1 : (t227 != 0) = true := bne_iff_ne.mpr c28
                    have H' := AsZ.mk H
                    clear H
                    go_wp2_with (first | ((with_reducible refine gCa (f := 35) rfl ?_); refine gLl (some 50) rfl rfl Try.func35 (by kernel_rfl) rfl #[.string t219, .int .u8 45] rfl (by (try simp only [lsD, lsE, lsF]); first | done | rfl | (simp only [lsG, lsH]; rfl)) ?_; (with_reducible refine (r1Cut.calls kj3 t219 45 t223 t224 true _ A18.out).mono ?_); rintro e w' ⟨rfl, ⟨nd, rfl⟩⟩; refine ⟨_, rfl, ?_⟩; (try (rw [drewN_self wc]; generalize hq_ : World.drewN wc _ = wc; have n0_ : AsZ (wc.heap[gb214]? = some (.cells #[.bool false, .int .i64 0, .int .i64 0, .int .i64 0] 59 (0, 0))) := ⟨by rw [← hq_]; exact (by (with_reducible repeat first | apply bDn | apply bDr | apply bAl); exact BK214.out)⟩; have n1_ : AsZ (wc.heap[gb215]? = some (.cells #[.bool false, .int .i64 0, .int .i64 0, .int .i64 (-1)] 59 (0, 0))) := ⟨by rw [← hq_]; exact (by (with_reducible repeat first | apply bDn | apply bDr | apply bAl); exact BK215.out)⟩; have n2_ : AsZ (Below w.heap.size w wc) := ⟨by rw [← hq_]; exact (by repeat (first | (with_reducible first | exact HB.out | apply aBl | apply pBd | apply dBl | refine sBl ?_ GE214.out | refine sBl ?_ GE215.out) | exact HB.out))⟩; clear BK214 BK215 HB hq_; have BK214 := n0_; have BK215 := n1_; have HB := n2_; clear n0_ n1_ n2_))) | ((with_reducible refine gCa (f := 37) rfl ?_); refine gLl (some 56) rfl rfl Try.func37 (by kernel_rfl) rfl #[.string t223] rfl (by (try simp only [lsD, lsE, lsF]); first | done | rfl | (simp only [lsG, lsH]; rfl)) ?_; (with_reducible refine (r1Pars.calls kj3 t223 t226 t227 _ A19.out).mono ?_); rintro e w' ⟨rfl, ⟨nd, rfl⟩⟩; refine ⟨_, rfl, ?_⟩; (try (rw [drewN_self wc]; generalize hq_ : World.drewN wc _ = wc; have n0_ : AsZ (wc.heap[gb214]? = some (.cells #[.bool false, .int .i64 0, .int .i64 0, .int .i64 0] 59 (0, 0))) := ⟨by rw [← hq_]; exact (by (with_reducible repeat first | apply bDn | apply bDr | apply bAl); exact BK214.out)⟩; have n1_ : AsZ (wc.heap[gb215]? = some (.cells #[.bool false, .int .i64 0, .int .i64 0, .int .i64 (-1)] 59 (0, 0))) := ⟨by rw [← hq_]; exact (by (with_reducible repeat first | apply bDn | apply bDr | apply bAl); exact BK215.out)⟩; have n2_ : AsZ (Below w.heap.size w wc) := ⟨by rw [← hq_]; exact (by repeat (first | (with_reducible first | exact HB.out | apply aBl | apply pBd | apply dBl | refine sBl ?_ GE214.out | refine sBl ?_ GE215.out) | exact HB.out))⟩; clear BK214 BK215 HB hq_; have BK214 := n0_; have BK215 := n1_; have HB := n2_; clear n0_ n1_ n2_))) | ((with_reducible refine gCa (f := 37) rfl ?_); refine gLl (some 61) rfl rfl Try.func37 (by kernel_rfl) rfl #[.string t224] rfl (by (try simp only [lsD, lsE, lsF]); first | done | rfl | (simp only [lsG, lsH]; rfl)) ?_; (with_reducible refine (r1Pars.calls kj3 t224 t228 t229 _ A20.out).mono ?_); rintro e w' ⟨rfl, ⟨nd, rfl⟩⟩; refine ⟨_, rfl, ?_⟩; (try (rw [drewN_self wc]; generalize hq_ : World.drewN wc _ = wc; have n0_ : AsZ (wc.heap[gb214]? = some (.cells #[.bool false, .int .i64 0, .int .i64 0, .int .i64 0] 59 (0, 0))) := ⟨by rw [← hq_]; exact (by (with_reducible repeat first | apply bDn | apply bDr | apply bAl); exact BK214.out)⟩; have n1_ : AsZ (wc.heap[gb215]? = some (.cells #[.bool false, .int .i64 0, .int .i64 0, .int .i64 (-1)] 59 (0, 0))) := ⟨by rw [← hq_]; exact (by (with_reducible repeat first | apply bDn | apply bDr | apply bAl); exact BK215.out)⟩; have n2_ : AsZ (Below w.heap.size w wc) := ⟨by rw [← hq_]; exact (by repeat (first | (with_reducible first | exact HB.out | apply aBl | apply pBd | apply dBl | refine sBl ?_ GE214.out | refine sBl ?_ GE215.out) | exact HB.out))⟩; clear BK214 BK215 HB hq_; have BK214 := n0_; have BK215 := n1_; have HB := n2_; clear n0_ n1_ n2_)); have hnb31 := NB215_214.out; have hnc31 := NB214_215.out; obtain ⟨hcz32_0, hcz32_1, hcz32_2, hcz32_3⟩ := celN4 BK215.out; obtain ⟨hfz32_0, hfz32_1, hfz32_2, hfz32_3⟩ := fzN4 BK215.out))
                    go_meet
                    case rel => exact ⟨_, (true), (false), (0), (0), (0), (true), (t226), (wrap64 (t228 + 1)), (by first | rfl | (simp; done) | (simp [*]; done)), H', ⟨by have := HJ3.out; first | omega | exact Nat.le_refl _⟩, ⟨by (with_reducible repeat first | apply bDn | apply bDr | apply bAl); refine bFr ?_ NB214_215.out _; (with_reducible repeat first | apply bDn | apply bDr | apply bAl); refine bFr ?_ NB214_215.out _; (with_reducible repeat first | apply bDn | apply bDr | apply bAl); refine bFr ?_ NB214_215.out _; (with_reducible repeat first | apply bDn | apply bDr | apply bAl); exact BK214.out⟩, ⟨by (with_reducible repeat first | apply bDn | apply bDr | apply bAl); refine bPu (cs := #[.bool true, .int .i64 t226, .int .i64 0, .int .i64 (-1)]) ?_ 2 _ rfl; (with_reducible repeat first | apply bDn | apply bDr | apply bAl); refine bPu (cs := #[.bool true, .int .i64 0, .int .i64 0, .int .i64 (-1)]) ?_ 1 _ rfl; (with_reducible repeat first | apply bDn | apply bDr | apply bAl); refine bPu (cs := #[.bool false, .int .i64 0, .int .i64 0, .int .i64 (-1)]) ?_ 0 _ rfl; (with_reducible repeat first | apply bDn | apply bDr | apply bAl); exact BK215.out⟩, ⟨by repeat (first | (with_reducible first | exact HB.out | apply aBl | apply pBd | apply dBl | refine sBl ?_ GE214.out | refine sBl ?_ GE215.out) | exact HB.out)⟩⟩
            · replace c21 := Bool.eq_false_iff.mpr c21
              subst c21
              have H1 : (some (false, 0, 0, 0, 3)) = some (r1, r2, r3, r4, r5) := by rw [if_neg (show ¬ (false = true) by decide)] at H; exact H
              clear H
              have H := H1
              clear H1
              simp only [Option.some.injEq, Prod.mk.injEq] at H
              obtain ⟨rfl, rfl, rfl, rfl, rfl⟩ := H
              go_wp2_with (first | ((with_reducible refine gCa (f := 35) rfl ?_); refine gLl (some 50) rfl rfl Try.func35 (by kernel_rfl) rfl #[.string t219, .int .u8 45] rfl (by (try simp only [lsD, lsE, lsF]); first | done | rfl | (simp only [lsG, lsH]; rfl)) ?_; (with_reducible refine (r1Cut.calls kj3 t219 45 t223 t224 false _ A18.out).mono ?_); rintro e w' ⟨rfl, ⟨nd, rfl⟩⟩; refine ⟨_, rfl, ?_⟩; (try (rw [drewN_self wc]; generalize hq_ : World.drewN wc _ = wc; have n0_ : AsZ (wc.heap[gb214]? = some (.cells #[.bool false, .int .i64 0, .int .i64 0, .int .i64 0] 59 (0, 0))) := ⟨by rw [← hq_]; exact (by (with_reducible repeat first | apply bDn | apply bDr | apply bAl); exact BK214.out)⟩; have n1_ : AsZ (wc.heap[gb215]? = some (.cells #[.bool false, .int .i64 0, .int .i64 0, .int .i64 (-1)] 59 (0, 0))) := ⟨by rw [← hq_]; exact (by (with_reducible repeat first | apply bDn | apply bDr | apply bAl); exact BK215.out)⟩; have n2_ : AsZ (Below w.heap.size w wc) := ⟨by rw [← hq_]; exact (by repeat (first | (with_reducible first | exact HB.out | apply aBl | apply pBd | apply dBl | refine sBl ?_ GE214.out | refine sBl ?_ GE215.out) | exact HB.out))⟩; clear BK214 BK215 HB hq_; have BK214 := n0_; have BK215 := n1_; have HB := n2_; clear n0_ n1_ n2_))) | ((with_reducible refine gCa (f := 37) rfl ?_); refine gLl (some 56) rfl rfl Try.func37 (by kernel_rfl) rfl #[.string t223] rfl (by (try simp only [lsD, lsE, lsF]); first | done | rfl | (simp only [lsG, lsH]; rfl)) ?_; (with_reducible refine (r1Pars.calls kj3 t223 t226 t227 _ A19.out).mono ?_); rintro e w' ⟨rfl, ⟨nd, rfl⟩⟩; refine ⟨_, rfl, ?_⟩; (try (rw [drewN_self wc]; generalize hq_ : World.drewN wc _ = wc; have n0_ : AsZ (wc.heap[gb214]? = some (.cells #[.bool false, .int .i64 0, .int .i64 0, .int .i64 0] 59 (0, 0))) := ⟨by rw [← hq_]; exact (by (with_reducible repeat first | apply bDn | apply bDr | apply bAl); exact BK214.out)⟩; have n1_ : AsZ (wc.heap[gb215]? = some (.cells #[.bool false, .int .i64 0, .int .i64 0, .int .i64 (-1)] 59 (0, 0))) := ⟨by rw [← hq_]; exact (by (with_reducible repeat first | apply bDn | apply bDr | apply bAl); exact BK215.out)⟩; have n2_ : AsZ (Below w.heap.size w wc) := ⟨by rw [← hq_]; exact (by repeat (first | (with_reducible first | exact HB.out | apply aBl | apply pBd | apply dBl | refine sBl ?_ GE214.out | refine sBl ?_ GE215.out) | exact HB.out))⟩; clear BK214 BK215 HB hq_; have BK214 := n0_; have BK215 := n1_; have HB := n2_; clear n0_ n1_ n2_))) | ((with_reducible refine gCa (f := 37) rfl ?_); refine gLl (some 61) rfl rfl Try.func37 (by kernel_rfl) rfl #[.string t224] rfl (by (try simp only [lsD, lsE, lsF]); first | done | rfl | (simp only [lsG, lsH]; rfl)) ?_; (with_reducible refine (r1Pars.calls kj3 t224 t228 t229 _ A20.out).mono ?_); rintro e w' ⟨rfl, ⟨nd, rfl⟩⟩; refine ⟨_, rfl, ?_⟩; (try (rw [drewN_self wc]; generalize hq_ : World.drewN wc _ = wc; have n0_ : AsZ (wc.heap[gb214]? = some (.cells #[.bool false, .int .i64 0, .int .i64 0, .int .i64 0] 59 (0, 0))) := ⟨by rw [← hq_]; exact (by (with_reducible repeat first | apply bDn | apply bDr | apply bAl); exact BK214.out)⟩; have n1_ : AsZ (wc.heap[gb215]? = some (.cells #[.bool false, .int .i64 0, .int .i64 0, .int .i64 (-1)] 59 (0, 0))) := ⟨by rw [← hq_]; exact (by (with_reducible repeat first | apply bDn | apply bDr | apply bAl); exact BK215.out)⟩; have n2_ : AsZ (Below w.heap.size w wc) := ⟨by rw [← hq_]; exact (by repeat (first | (with_reducible first | exact HB.out | apply aBl | apply pBd | apply dBl | refine sBl ?_ GE214.out | refine sBl ?_ GE215.out) | exact HB.out))⟩; clear BK214 BK215 HB hq_; have BK214 := n0_; have BK215 := n1_; have HB := n2_; clear n0_ n1_ n2_)); have hnb33 := NB214_215.out; have hnc33 := NB215_214.out; obtain ⟨hcz34_0, hcz34_1, hcz34_2, hcz34_3⟩ := celN4 BK214.out; obtain ⟨hfz34_0, hfz34_1, hfz34_2, hfz34_3⟩ := fzN4 BK214.out))
              refine bodyPost_ret (results_ct rfl _ _ gb214 59 #[.bool false, .int .i64 0, .int .i64 0, .int .i64 0] (0, 0) _ rfl (by (with_reducible repeat first | apply bDn | apply bDr | apply bAl); refine bPu (cs := #[.bool false, .int .i64 0, .int .i64 0, .int .i64 0]) ?_ 3 _ rfl; (with_reducible repeat first | apply bDn | apply bDr | apply bAl); refine bPu (cs := #[.bool false, .int .i64 0, .int .i64 0, .int .i64 0]) ?_ 2 _ rfl; (with_reducible repeat first | apply bDn | apply bDr | apply bAl); refine bPu (cs := #[.bool false, .int .i64 0, .int .i64 0, .int .i64 0]) ?_ 1 _ rfl; (with_reducible repeat first | apply bDn | apply bDr | apply bAl); refine bPu (cs := #[.bool false, .int .i64 0, .int .i64 0, .int .i64 0]) ?_ 0 _ rfl; (with_reducible repeat first | apply bDn | apply bDr | apply bAl); exact BK214.out) Try.underlying59 rfl (by kernel_rfl)) rfl ?_
              exact ⟨by first | rfl | exact nEm _ | exact eEm _ | (simp [eWn, eWs] <;> rfl) | (simp [*, eWn, eWs] <;> rfl), by repeat (first | (with_reducible first | exact HB.out | apply aBl | apply pBd | apply dBl | refine sBl ?_ GE214.out | refine sBl ?_ GE215.out) | exact HB.out)⟩
        case rest =>
          clear HC16
          try clear c1
          try clear c2
          try clear p2
          try clear c3
          try clear p6
          try clear c7
          try clear c9
          try clear c10
          try clear c13
          try clear c14
          try clear c17
          try clear c17b0
          try clear c17b1
          try clear c21
          try clear c22
          try clear c22b0
          try clear c22b1
          try clear c23
          try clear c24
          try clear c25
          try clear c25b0
          try clear c25b1
          try clear c26
          try clear c28
          try clear c28b0
          try clear c28b1
          try clear c29
          try clear c31
          try clear c33
          try clear hcz15_0
          try clear hcz15_1
          try clear hcz15_2
          try clear hcz15_3
          try clear hcz24_0
          try clear hcz24_1
          try clear hcz24_2
          try clear hcz24_3
          try clear hcz27_0
          try clear hcz27_1
          try clear hcz27_2
          try clear hcz27_3
          try clear hcz30_0
          try clear hcz30_1
          try clear hcz30_2
          try clear hcz30_3
          try clear hcz32_0
          try clear hcz32_1
          try clear hcz32_2
          try clear hcz32_3
          try clear hcz34_0
          try clear hcz34_1
          try clear hcz34_2
          try clear hcz34_3
          try clear hcz8_0
          try clear hcz8_1
          try clear hcz8_2
          try clear hcz8_3
          try clear hfz15_0
          try clear hfz15_1
          try clear hfz15_2
          try clear hfz15_3
          try clear hfz24_0
          try clear hfz24_1
          try clear hfz24_2
          try clear hfz24_3
          try clear hfz27_0
          try clear hfz27_1
          try clear hfz27_2
          try clear hfz27_3
          try clear hfz30_0
          try clear hfz30_1
          try clear hfz30_2
          try clear hfz30_3
          try clear hfz32_0
          try clear hfz32_1
          try clear hfz32_2
          try clear hfz32_3
          try clear hfz34_0
          try clear hfz34_1
          try clear hfz34_2
          try clear hfz34_3
          try clear hfz8_0
          try clear hfz8_1
          try clear hfz8_2
          try clear hfz8_3
          try clear p2
          obtain ⟨kq, x11_15, x215000_15, x215001_15, x215002_15, x215003_15, x216000_15, x216001_15, x216002_15, rfl, HA, HJ15, BK214, BK215, HB⟩ := hcut
          cases kq with
          | zero => exact absurd HA.out (by simp [r4Cont.j1])
          | succ kj15 =>
            have H := HA.out
            clear HA
            simp only [r4Cont.j1] at H
            have HC35 := AsZ.mk H
            clear H
            go_upto_if 88 with (fail)
            go_cut [11] (fun v11 wc => ∃ (kq : Nat) (x11_34 : Bool) (x215000_34 : Bool) (x215001_34 : Int) (x215002_34 : Int) (x215003_34 : Int) (x216003_34 : Int), v11 = .bool x11_34 ∧ AsZ (r4Cont.j2 kq x11_34 x216000_15 x216001_15 x216002_15 x216003_34 = some (r1, r2, r3, r4, r5)) ∧ AsZ (kq ≤ kj15) ∧ AsZ (wc.heap[gb214]? = some (.cells #[.bool x215000_34, .int .i64 x215001_34, .int .i64 x215002_34, .int .i64 x215003_34] 59 (0, 0))) ∧ AsZ (wc.heap[gb215]? = some (.cells #[.bool x216000_15, .int .i64 x216001_15, .int .i64 x216002_15, .int .i64 x216003_34] 59 (0, 0))) ∧ AsZ (Below w.heap.size w wc))
            case first =>
              have H := HC35.out
              clear HC35
              by_cases c36 : t220.toList = ([42] : List UInt8)
              · rw [if_pos c36] at H
                have c36b0 : (t220.toList == ([42] : List UInt8)) = true := beq_iff_eq.mpr c36
                have c36b1 : (t220.toList != ([42] : List UInt8)) = false := bne_eq_false_iff_eq.mpr c36
                clear c36
                (first | rw [c36b0] | (simp only [i64_w, i32_w]; rw [c36b0]) | skip)
                have H' := AsZ.mk H
                clear H
                go_wp2
                go_meet
                case rel => exact ⟨_, (x11_15), (x215000_15), (x215001_15), (x215002_15), (x215003_15), ((-1)), (by first | rfl | (simp; done) | (simp [*]; done)), H', ⟨by have := HJ3.out; have := HJ15.out; first | omega | exact Nat.le_refl _⟩, ⟨by (with_reducible repeat first | apply bDn | apply bDr | apply bAl); exact BK214.out⟩, ⟨by (with_reducible repeat first | apply bDn | apply bDr | apply bAl); exact BK215.out⟩, ⟨by repeat (first | (with_reducible first | exact HB.out | apply aBl | apply pBd | apply dBl | refine sBl ?_ GE214.out | refine sBl ?_ GE215.out) | exact HB.out)⟩⟩
              · rw [if_neg c36] at H
                have c36b0 : (t220.toList == ([42] : List UInt8)) = false := beq_eq_false_iff_ne.mpr c36
                have c36b1 : (t220.toList != ([42] : List UInt8)) = true := bne_iff_ne.mpr c36
                (first | rw [c36b0] | (simp only [i64_w, i32_w]; rw [c36b0]) | skip)
                replace H := Option.bind_eq_some_iff.mp H
                obtain ⟨⟨t230, t231⟩, A370, H⟩ := H
                replace H : (if t231 = 3 then (some (false, 0, 0, 0, 3)) else (if x11_15 = true then (r4Cont.j2 kj15 true x216000_15 x216001_15 x216002_15 t230) else (r4Cont.j2 kj15 (t231 != 0) x216000_15 x216001_15 x216002_15 t230))) = some (r1, r2, r3, r4, r5) := H
                have A37 := AsZ.mk A370
                clear A370
                by_cases c38 : t231 = 3
                · rw [if_pos c38] at H
                  have c38b0 : (t231 == 3) = true := beq_iff_eq.mpr c38
                  have c38b1 : (t231 != 3) = false := bne_eq_false_iff_eq.mpr c38
                  clear c38
                  simp only [Option.some.injEq, Prod.mk.injEq] at H
                  obtain ⟨rfl, rfl, rfl, rfl, rfl⟩ := H
                  go_wp2_with (first | ((with_reducible refine gCa (f := 37) rfl ?_); refine gLl (some 91) rfl rfl Try.func37 (by kernel_rfl) rfl #[.string t220] rfl (by (try simp only [lsD, lsE, lsF]); first | done | rfl | (simp only [lsG, lsH]; rfl)) ?_; (with_reducible refine (r1Pars.calls kj15 t220 t230 t231 _ A37.out).mono ?_); rintro e w' ⟨rfl, ⟨nd, rfl⟩⟩; refine ⟨_, rfl, ?_⟩; (try (rw [drewN_self wc]; generalize hq_ : World.drewN wc _ = wc; have n0_ : AsZ (wc.heap[gb214]? = some (.cells #[.bool x215000_15, .int .i64 x215001_15, .int .i64 x215002_15, .int .i64 x215003_15] 59 (0, 0))) := ⟨by rw [← hq_]; exact (by (with_reducible repeat first | apply bDn | apply bDr | apply bAl); exact BK214.out)⟩; have n1_ : AsZ (wc.heap[gb215]? = some (.cells #[.bool x216000_15, .int .i64 x216001_15, .int .i64 x216002_15, .int .i64 (-1)] 59 (0, 0))) := ⟨by rw [← hq_]; exact (by (with_reducible repeat first | apply bDn | apply bDr | apply bAl); exact BK215.out)⟩; have n2_ : AsZ (Below w.heap.size w wc) := ⟨by rw [← hq_]; exact (by repeat (first | (with_reducible first | exact HB.out | apply aBl | apply pBd | apply dBl | refine sBl ?_ GE214.out | refine sBl ?_ GE215.out) | exact HB.out))⟩; clear BK214 BK215 HB hq_; have BK214 := n0_; have BK215 := n1_; have HB := n2_; clear n0_ n1_ n2_)); have hnb39 := NB214_215.out; have hnc39 := NB215_214.out; obtain ⟨hcz40_0, hcz40_1, hcz40_2, hcz40_3⟩ := celN4 BK214.out; obtain ⟨hfz40_0, hfz40_1, hfz40_2, hfz40_3⟩ := fzN4 BK214.out))
                  refine bodyPost_ret (results_ct rfl _ _ gb214 59 #[.bool false, .int .i64 0, .int .i64 0, .int .i64 0] (0, 0) _ rfl (by (with_reducible repeat first | apply bDn | apply bDr | apply bAl); refine bPu (cs := #[.bool false, .int .i64 0, .int .i64 0, .int .i64 x215003_15]) ?_ 3 _ rfl; (with_reducible repeat first | apply bDn | apply bDr | apply bAl); refine bPu (cs := #[.bool false, .int .i64 0, .int .i64 x215002_15, .int .i64 x215003_15]) ?_ 2 _ rfl; (with_reducible repeat first | apply bDn | apply bDr | apply bAl); refine bPu (cs := #[.bool false, .int .i64 x215001_15, .int .i64 x215002_15, .int .i64 x215003_15]) ?_ 1 _ rfl; (with_reducible repeat first | apply bDn | apply bDr | apply bAl); refine bPu (cs := #[.bool x215000_15, .int .i64 x215001_15, .int .i64 x215002_15, .int .i64 x215003_15]) ?_ 0 _ rfl; (with_reducible repeat first | apply bDn | apply bDr | apply bAl); exact BK214.out) Try.underlying59 rfl (by kernel_rfl)) rfl ?_
                  exact ⟨by first | rfl | exact nEm _ | exact eEm _ | (simp [eWn, eWs] <;> rfl) | (simp [*, eWn, eWs] <;> rfl), by repeat (first | (with_reducible first | exact HB.out | apply aBl | apply pBd | apply dBl | refine sBl ?_ GE214.out | refine sBl ?_ GE215.out) | exact HB.out)⟩
                · rw [if_neg c38] at H
                  have c38b0 : (t231 == 3) = false := beq_eq_false_iff_ne.mpr c38
                  have c38b1 : (t231 != 3) = true := bne_iff_ne.mpr c38
                  by_cases c41 : x11_15 = true
                  · subst c41
                    have H1 : (r4Cont.j2 kj15 true x216000_15 x216001_15 x216002_15 t230) = some (r1, r2, r3, r4, r5) := by rw [if_pos rfl] at H; exact H
                    clear H
                    have H := H1
                    clear H1
                    have H' := AsZ.mk H
                    clear H
                    go_wp2_with (first | ((with_reducible refine gCa (f := 37) rfl ?_); refine gLl (some 91) rfl rfl Try.func37 (by kernel_rfl) rfl #[.string t220] rfl (by (try simp only [lsD, lsE, lsF]); first | done | rfl | (simp only [lsG, lsH]; rfl)) ?_; (with_reducible refine (r1Pars.calls kj15 t220 t230 t231 _ A37.out).mono ?_); rintro e w' ⟨rfl, ⟨nd, rfl⟩⟩; refine ⟨_, rfl, ?_⟩; (try (rw [drewN_self wc]; generalize hq_ : World.drewN wc _ = wc; have n0_ : AsZ (wc.heap[gb214]? = some (.cells #[.bool x215000_15, .int .i64 x215001_15, .int .i64 x215002_15, .int .i64 x215003_15] 59 (0, 0))) := ⟨by rw [← hq_]; exact (by (with_reducible repeat first | apply bDn | apply bDr | apply bAl); exact BK214.out)⟩; have n1_ : AsZ (wc.heap[gb215]? = some (.cells #[.bool x216000_15, .int .i64 x216001_15, .int .i64 x216002_15, .int .i64 (-1)] 59 (0, 0))) := ⟨by rw [← hq_]; exact (by (with_reducible repeat first | apply bDn | apply bDr | apply bAl); exact BK215.out)⟩; have n2_ : AsZ (Below w.heap.size w wc) := ⟨by rw [← hq_]; exact (by repeat (first | (with_reducible first | exact HB.out | apply aBl | apply pBd | apply dBl | refine sBl ?_ GE214.out | refine sBl ?_ GE215.out) | exact HB.out))⟩; clear BK214 BK215 HB hq_; have BK214 := n0_; have BK215 := n1_; have HB := n2_; clear n0_ n1_ n2_)); have hnb42 := NB215_214.out; have hnc42 := NB214_215.out; obtain ⟨hcz43_0, hcz43_1, hcz43_2, hcz43_3⟩ := celN4 BK215.out; obtain ⟨hfz43_0, hfz43_1, hfz43_2, hfz43_3⟩ := fzN4 BK215.out))
                    go_meet
                    case rel => exact ⟨_, (true), (x215000_15), (x215001_15), (x215002_15), (x215003_15), (t230), (by first | rfl | (simp; done) | (simp [*]; done)), H', ⟨by have := HJ3.out; have := HJ15.out; first | omega | exact Nat.le_refl _⟩, ⟨by (with_reducible repeat first | apply bDn | apply bDr | apply bAl); refine bFr ?_ NB214_215.out _; (with_reducible repeat first | apply bDn | apply bDr | apply bAl); exact BK214.out⟩, ⟨by (with_reducible repeat first | apply bDn | apply bDr | apply bAl); refine bPu (cs := #[.bool x216000_15, .int .i64 x216001_15, .int .i64 x216002_15, .int .i64 (-1)]) ?_ 3 _ rfl; (with_reducible repeat first | apply bDn | apply bDr | apply bAl); exact BK215.out⟩, ⟨by repeat (first | (with_reducible first | exact HB.out | apply aBl | apply pBd | apply dBl | refine sBl ?_ GE214.out | refine sBl ?_ GE215.out) | exact HB.out)⟩⟩
                  · replace c41 := Bool.eq_false_iff.mpr c41
                    subst c41
                    have H1 : (r4Cont.j2 kj15 (t231 != 0) x216000_15 x216001_15 x216002_15 t230) = some (r1, r2, r3, r4, r5) := by rw [if_neg (show ¬ (false = true) by decide)] at H; exact H
                    clear H
                    have H := H1
                    clear H1
                    have H' := AsZ.mk H
                    clear H
                    go_wp2_with (first | ((with_reducible refine gCa (f := 37) rfl ?_); refine gLl (some 91) rfl rfl Try.func37 (by kernel_rfl) rfl #[.string t220] rfl (by (try simp only [lsD, lsE, lsF]); first | done | rfl | (simp only [lsG, lsH]; rfl)) ?_; (with_reducible refine (r1Pars.calls kj15 t220 t230 t231 _ A37.out).mono ?_); rintro e w' ⟨rfl, ⟨nd, rfl⟩⟩; refine ⟨_, rfl, ?_⟩; (try (rw [drewN_self wc]; generalize hq_ : World.drewN wc _ = wc; have n0_ : AsZ (wc.heap[gb214]? = some (.cells #[.bool x215000_15, .int .i64 x215001_15, .int .i64 x215002_15, .int .i64 x215003_15] 59 (0, 0))) := ⟨by rw [← hq_]; exact (by (with_reducible repeat first | apply bDn | apply bDr | apply bAl); exact BK214.out)⟩; have n1_ : AsZ (wc.heap[gb215]? = some (.cells #[.bool x216000_15, .int .i64 x216001_15, .int .i64 x216002_15, .int .i64 (-1)] 59 (0, 0))) := ⟨by rw [← hq_]; exact (by (with_reducible repeat first | apply bDn | apply bDr | apply bAl); exact BK215.out)⟩; have n2_ : AsZ (Below w.heap.size w wc) := ⟨by rw [← hq_]; exact (by repeat (first | (with_reducible first | exact HB.out | apply aBl | apply pBd | apply dBl | refine sBl ?_ GE214.out | refine sBl ?_ GE215.out) | exact HB.out))⟩; clear BK214 BK215 HB hq_; have BK214 := n0_; have BK215 := n1_; have HB := n2_; clear n0_ n1_ n2_)); have hnb44 := NB215_214.out; have hnc44 := NB214_215.out; obtain ⟨hcz45_0, hcz45_1, hcz45_2, hcz45_3⟩ := celN4 BK215.out; obtain ⟨hfz45_0, hfz45_1, hfz45_2, hfz45_3⟩ := fzN4 BK215.out))
                    go_meet
                    case rel => exact ⟨_, ((t231 != 0)), (x215000_15), (x215001_15), (x215002_15), (x215003_15), (t230), (by first | rfl | (simp; done) | (simp [*]; done)), H', ⟨by have := HJ3.out; have := HJ15.out; first | omega | exact Nat.le_refl _⟩, ⟨by (with_reducible repeat first | apply bDn | apply bDr | apply bAl); refine bFr ?_ NB214_215.out _; (with_reducible repeat first | apply bDn | apply bDr | apply bAl); exact BK214.out⟩, ⟨by (with_reducible repeat first | apply bDn | apply bDr | apply bAl); refine bPu (cs := #[.bool x216000_15, .int .i64 x216001_15, .int .i64 x216002_15, .int .i64 (-1)]) ?_ 3 _ rfl; (with_reducible repeat first | apply bDn | apply bDr | apply bAl); exact BK215.out⟩, ⟨by repeat (first | (with_reducible first | exact HB.out | apply aBl | apply pBd | apply dBl | refine sBl ?_ GE214.out | refine sBl ?_ GE215.out) | exact HB.out)⟩⟩
            case rest =>
              clear HC35
              try clear c1
              try clear c2
              try clear p2
              try clear c3
              try clear c4
              try clear p6
              try clear c7
              try clear c9
              try clear c10
              try clear c13
              try clear c14
              try clear c17
              try clear c17b0
              try clear c17b1
              try clear c21
              try clear c22
              try clear c22b0
              try clear c22b1
              try clear c23
              try clear c24
              try clear c25
              try clear c25b0
              try clear c25b1
              try clear c26
              try clear c28
              try clear c28b0
              try clear c28b1
              try clear c29
              try clear c31
              try clear c33
              try clear c35
              try clear c36
              try clear c36b0
              try clear c36b1
              try clear c37
              try clear c38
              try clear c38b0
              try clear c38b1
              try clear c39
              try clear c41
              try clear c42
              try clear c44
              try clear hcz15_0
              try clear hcz15_1
              try clear hcz15_2
              try clear hcz15_3
              try clear hcz24_0
              try clear hcz24_1
              try clear hcz24_2
              try clear hcz24_3
              try clear hcz27_0
              try clear hcz27_1
              try clear hcz27_2
              try clear hcz27_3
              try clear hcz30_0
              try clear hcz30_1
              try clear hcz30_2
              try clear hcz30_3
              try clear hcz32_0
              try clear hcz32_1
              try clear hcz32_2
              try clear hcz32_3
              try clear hcz34_0
              try clear hcz34_1
              try clear hcz34_2
              try clear hcz34_3
              try clear hcz40_0
              try clear hcz40_1
              try clear hcz40_2
              try clear hcz40_3
              try clear hcz43_0
              try clear hcz43_1
              try clear hcz43_2
              try clear hcz43_3
              try clear hcz45_0
              try clear hcz45_1
              try clear hcz45_2
              try clear hcz45_3
              try clear hcz8_0
              try clear hcz8_1
              try clear hcz8_2
              try clear hcz8_3
              try clear hfz15_0
              try clear hfz15_1
              try clear hfz15_2
              try clear hfz15_3
              try clear hfz24_0
              try clear hfz24_1
              try clear hfz24_2
              try clear hfz24_3
              try clear hfz27_0
              try clear hfz27_1
              try clear hfz27_2
              try clear hfz27_3
              try clear hfz30_0
              try clear hfz30_1
              try clear hfz30_2
              try clear hfz30_3
              try clear hfz32_0
              try clear hfz32_1
              try clear hfz32_2
              try clear hfz32_3
              try clear hfz34_0
              try clear hfz34_1
              try clear hfz34_2
              try clear hfz34_3
              try clear hfz40_0
              try clear hfz40_1
              try clear hfz40_2
              try clear hfz40_3
              try clear hfz43_0
              try clear hfz43_1
              try clear hfz43_2
              try clear hfz43_3
              try clear hfz45_0
              try clear hfz45_1
              try clear hfz45_2
              try clear hfz45_3
              try clear hfz8_0
              try clear hfz8_1
              try clear hfz8_2
              try clear hfz8_3
              try clear p2
              try clear p6
              obtain ⟨kq, x11_34, x215000_34, x215001_34, x215002_34, x215003_34, x216003_34, rfl, HA, HJ34, BK214, BK215, HB⟩ := hcut
              cases kq with
              | zero => exact absurd HA.out (by simp [r4Cont.j2])
              | succ kj34 =>
                have H := HA.out
                clear HA
                simp only [r4Cont.j2] at H
                by_cases c46 : x11_34 = true
                · subst c46
                  have H1 : (some (false, 0, 0, 0, 9)) = some (r1, r2, r3, r4, r5) := by rw [if_pos rfl] at H; exact H
                  clear H
                  have H := H1
                  clear H1
                  simp only [Option.some.injEq, Prod.mk.injEq] at H
                  obtain ⟨rfl, rfl, rfl, rfl, rfl⟩ := H
                  have hnb47 := NB214_215.out
                  have hnc47 := NB215_214.out
                  obtain ⟨hcz48_0, hcz48_1, hcz48_2, hcz48_3⟩ := celN4 BK214.out
                  obtain ⟨hfz48_0, hfz48_1, hfz48_2, hfz48_3⟩ := fzN4 BK214.out
                  go_wp2
                  refine bodyPost_ret (results_ct rfl _ _ gb214 59 #[.bool false, .int .i64 0, .int .i64 0, .int .i64 0] (0, 0) _ rfl (by (with_reducible repeat first | apply bDn | apply bDr | apply bAl); refine bPu (cs := #[.bool false, .int .i64 0, .int .i64 0, .int .i64 x215003_34]) ?_ 3 _ rfl; (with_reducible repeat first | apply bDn | apply bDr | apply bAl); refine bPu (cs := #[.bool false, .int .i64 0, .int .i64 x215002_34, .int .i64 x215003_34]) ?_ 2 _ rfl; (with_reducible repeat first | apply bDn | apply bDr | apply bAl); refine bPu (cs := #[.bool false, .int .i64 x215001_34, .int .i64 x215002_34, .int .i64 x215003_34]) ?_ 1 _ rfl; (with_reducible repeat first | apply bDn | apply bDr | apply bAl); refine bPu (cs := #[.bool x215000_34, .int .i64 x215001_34, .int .i64 x215002_34, .int .i64 x215003_34]) ?_ 0 _ rfl; (with_reducible repeat first | apply bDn | apply bDr | apply bAl); exact BK214.out) Try.underlying59 rfl (by kernel_rfl)) rfl ?_
                  exact ⟨by first | rfl | exact nEm _ | exact eEm _ | (simp [eWn, eWs] <;> rfl) | (simp [*, eWn, eWs] <;> rfl), by repeat (first | (with_reducible first | exact HB.out | apply aBl | apply pBd | apply dBl | refine sBl ?_ GE214.out | refine sBl ?_ GE215.out) | exact HB.out)⟩
                · replace c46 := Bool.eq_false_iff.mpr c46
                  subst c46
                  have H1 : ((r4RC.f kj34 x216000_15 x216001_15 x216002_15 x216003_34).bind fun t232 => (if t232 = true then (some (x216000_15, x216001_15, x216002_15, x216003_34, 0)) else (some (false, 0, 0, 0, 3)))) = some (r1, r2, r3, r4, r5) := by rw [if_neg (show ¬ (false = true) by decide)] at H; exact H
                  clear H
                  have H := H1
                  clear H1
                  replace H := Option.bind_eq_some_iff.mp H
                  obtain ⟨t232, A490, H⟩ := H
                  replace H : (if t232 = true then (some (x216000_15, x216001_15, x216002_15, x216003_34, 0)) else (some (false, 0, 0, 0, 3))) = some (r1, r2, r3, r4, r5) := H
                  have A49 := AsZ.mk A490
                  clear A490
                  by_cases c50 : t232 = true
                  · subst c50
                    have H1 : (some (x216000_15, x216001_15, x216002_15, x216003_34, 0)) = some (r1, r2, r3, r4, r5) := by rw [if_pos rfl] at H; exact H
                    clear H
                    have H := H1
                    clear H1
                    simp only [Option.some.injEq, Prod.mk.injEq] at H
                    obtain ⟨rfl, rfl, rfl, rfl, rfl⟩ := H
                    have hnb51 := NB215_214.out
                    have hnc51 := NB214_215.out
                    obtain ⟨hcz52_0, hcz52_1, hcz52_2, hcz52_3⟩ := celN4 BK215.out
                    obtain ⟨hfz52_0, hfz52_1, hfz52_2, hfz52_3⟩ := fzN4 BK215.out
                    go_wp2_with (first | ((with_reducible refine gCa (f := 33) rfl ?_); refine gLl (some 107) rfl rfl Try.func33 (by kernel_rfl) rfl #[.agg #[.bool x216000_15, .int .i64 x216001_15, .int .i64 x216002_15, .int .i64 x216003_34]] rfl (by (try simp only [lsD, lsE, lsF]); first | done | rfl | (simp only [lsG, lsH]; rfl)) ?_; (with_reducible refine (r4RC.calls kj34 x216000_15 x216001_15 x216002_15 x216003_34 true _ A49.out).mono ?_); rintro e w53 ⟨rfl, hb⟩; refine ⟨_, rfl, ?_⟩; have n0_ := AsZ.mk (bBl (g := gb214) (o := .cells #[.bool x215000_34, .int .i64 x215001_34, .int .i64 x215002_34, .int .i64 x215003_34] 59 (0, 0)) (by (with_reducible repeat first | apply bDn | apply bDr | apply bAl); exact BK214.out) hb); have n1_ := AsZ.mk (bBl (g := gb215) (o := .cells #[.bool x216000_15, .int .i64 x216001_15, .int .i64 x216002_15, .int .i64 x216003_34] 59 (0, 0)) (by (with_reducible repeat first | apply bDn | apply bDr | apply bAl); exact BK215.out) hb); have n2_ := AsZ.mk (tBl (by repeat (first | (with_reducible first | exact HB.out | apply aBl | apply pBd | apply dBl | refine sBl ?_ GE214.out | refine sBl ?_ GE215.out) | exact HB.out)) hb); clear BK214; clear BK215; clear HB; have BK214 := n0_; have BK215 := n1_; have HB := n2_; clear n0_ n1_ n2_; (try clear hb); (try clear hb2); (try clear hk); (try clear hi); obtain ⟨hcz54_0, hcz54_1, hcz54_2, hcz54_3⟩ := celN4 BK215.out; obtain ⟨hfz54_0, hfz54_1, hfz54_2, hfz54_3⟩ := fzN4 BK215.out; obtain ⟨hcz55_0, hcz55_1, hcz55_2, hcz55_3⟩ := celN4 BK214.out; obtain ⟨hfz55_0, hfz55_1, hfz55_2, hfz55_3⟩ := fzN4 BK214.out))
                    refine bodyPost_ret (results_ct rfl _ _ gb214 59 #[.bool x216000_15, .int .i64 x216001_15, .int .i64 x216002_15, .int .i64 x216003_34] (0, 0) _ rfl (by (with_reducible repeat first | apply bDn | apply bDr | apply bAl); refine bPu (cs := #[.bool x216000_15, .int .i64 x216001_15, .int .i64 x216002_15, .int .i64 x215003_34]) ?_ 3 _ rfl; (with_reducible repeat first | apply bDn | apply bDr | apply bAl); refine bPu (cs := #[.bool x216000_15, .int .i64 x216001_15, .int .i64 x215002_34, .int .i64 x215003_34]) ?_ 2 _ rfl; (with_reducible repeat first | apply bDn | apply bDr | apply bAl); refine bPu (cs := #[.bool x216000_15, .int .i64 x215001_34, .int .i64 x215002_34, .int .i64 x215003_34]) ?_ 1 _ rfl; (with_reducible repeat first | apply bDn | apply bDr | apply bAl); refine bPu (cs := #[.bool x215000_34, .int .i64 x215001_34, .int .i64 x215002_34, .int .i64 x215003_34]) ?_ 0 _ rfl; (with_reducible repeat first | apply bDn | apply bDr | apply bAl); exact BK214.out) Try.underlying59 rfl (by kernel_rfl)) rfl ?_
                    exact ⟨by first | rfl | exact nEm _ | exact eEm _ | (simp [eWn, eWs] <;> rfl) | (simp [*, eWn, eWs] <;> rfl), by repeat (first | (with_reducible first | exact HB.out | apply aBl | apply pBd | apply dBl | refine sBl ?_ GE214.out | refine sBl ?_ GE215.out) | exact HB.out)⟩
                  · replace c50 := Bool.eq_false_iff.mpr c50
                    subst c50
                    have H1 : (some (false, 0, 0, 0, 3)) = some (r1, r2, r3, r4, r5) := by rw [if_neg (show ¬ (false = true) by decide)] at H; exact H
                    clear H
                    have H := H1
                    clear H1
                    simp only [Option.some.injEq, Prod.mk.injEq] at H
                    obtain ⟨rfl, rfl, rfl, rfl, rfl⟩ := H
                    have hnb56 := NB215_214.out
                    have hnc56 := NB214_215.out
                    obtain ⟨hcz57_0, hcz57_1, hcz57_2, hcz57_3⟩ := celN4 BK215.out
                    obtain ⟨hfz57_0, hfz57_1, hfz57_2, hfz57_3⟩ := fzN4 BK215.out
                    go_wp2_with (first | ((with_reducible refine gCa (f := 33) rfl ?_); refine gLl (some 107) rfl rfl Try.func33 (by kernel_rfl) rfl #[.agg #[.bool x216000_15, .int .i64 x216001_15, .int .i64 x216002_15, .int .i64 x216003_34]] rfl (by (try simp only [lsD, lsE, lsF]); first | done | rfl | (simp only [lsG, lsH]; rfl)) ?_; (with_reducible refine (r4RC.calls kj34 x216000_15 x216001_15 x216002_15 x216003_34 false _ A49.out).mono ?_); rintro e w58 ⟨rfl, hb⟩; refine ⟨_, rfl, ?_⟩; have n0_ := AsZ.mk (bBl (g := gb214) (o := .cells #[.bool x215000_34, .int .i64 x215001_34, .int .i64 x215002_34, .int .i64 x215003_34] 59 (0, 0)) (by (with_reducible repeat first | apply bDn | apply bDr | apply bAl); exact BK214.out) hb); have n1_ := AsZ.mk (bBl (g := gb215) (o := .cells #[.bool x216000_15, .int .i64 x216001_15, .int .i64 x216002_15, .int .i64 x216003_34] 59 (0, 0)) (by (with_reducible repeat first | apply bDn | apply bDr | apply bAl); exact BK215.out) hb); have n2_ := AsZ.mk (tBl (by repeat (first | (with_reducible first | exact HB.out | apply aBl | apply pBd | apply dBl | refine sBl ?_ GE214.out | refine sBl ?_ GE215.out) | exact HB.out)) hb); clear BK214; clear BK215; clear HB; have BK214 := n0_; have BK215 := n1_; have HB := n2_; clear n0_ n1_ n2_; (try clear hb); (try clear hb2); (try clear hk); (try clear hi); obtain ⟨hcz59_0, hcz59_1, hcz59_2, hcz59_3⟩ := celN4 BK214.out; obtain ⟨hfz59_0, hfz59_1, hfz59_2, hfz59_3⟩ := fzN4 BK214.out))
                    refine bodyPost_ret (results_ct rfl _ _ gb214 59 #[.bool false, .int .i64 0, .int .i64 0, .int .i64 0] (0, 0) _ rfl (by (with_reducible repeat first | apply bDn | apply bDr | apply bAl); refine bPu (cs := #[.bool false, .int .i64 0, .int .i64 0, .int .i64 x215003_34]) ?_ 3 _ rfl; (with_reducible repeat first | apply bDn | apply bDr | apply bAl); refine bPu (cs := #[.bool false, .int .i64 0, .int .i64 x215002_34, .int .i64 x215003_34]) ?_ 2 _ rfl; (with_reducible repeat first | apply bDn | apply bDr | apply bAl); refine bPu (cs := #[.bool false, .int .i64 x215001_34, .int .i64 x215002_34, .int .i64 x215003_34]) ?_ 1 _ rfl; (with_reducible repeat first | apply bDn | apply bDr | apply bAl); refine bPu (cs := #[.bool x215000_34, .int .i64 x215001_34, .int .i64 x215002_34, .int .i64 x215003_34]) ?_ 0 _ rfl; (with_reducible repeat first | apply bDn | apply bDr | apply bAl); exact BK214.out) Try.underlying59 rfl (by kernel_rfl)) rfl ?_
                    exact ⟨by first | rfl | exact nEm _ | exact eEm _ | (simp [eWn, eWs] <;> rfl) | (simp [*, eWn, eWs] <;> rfl), by repeat (first | (with_reducible first | exact HB.out | apply aBl | apply pBd | apply dBl | refine sBl ?_ GE214.out | refine sBl ?_ GE215.out) | exact HB.out)⟩
end Go.Proofs.Ytpphnjmppkbpbaa.PAll
namespace Go.Proofs.Ytpphnjmppkbpbaa.PAll
open Go.RowKit Go.Proofs.Ytpphnjmppkbpbaa.Xw Go.Proofs.YtpphnjmppkbpbaaW.PrintWords Go.Proofs.YtpphnjmppkbpbaaW.PrintLast Go.Proofs.YtpphnjmppkbpbaaW.PrintMore
attribute [local go_sem] max2_int min2_int max_two min_two max_three min_three max_four min_four
set_option linter.unusedVariables false
set_option linter.unusedSimpArgs false
def spenceref24_Faulty.f (k : Nat) (a0 : Int) (a1_0 : Int) (a1_1 : ByteArray) (a1_2 : Int) (a1_3 : ByteArray) (l1_4 : List Int) : Option (Int × ByteArray × Int × ByteArray × List Int) := if a0 = 1 then (some (503, (⟨#[]⟩ : ByteArray), 0, (⟨#[]⟩ : ByteArray), ([] : List Int))) else (if a0 = 5 then (some (404, (⟨#[]⟩ : ByteArray), 0, (⟨#[]⟩ : ByteArray), ([] : List Int))) else (if a0 = 4 then (if a1_1.size + 1 ≤ 9223372036854775807 then (some (a1_0, a1_1 ++ (⟨#[34]⟩ : ByteArray), a1_2, a1_3, l1_4)) else (none)) else (if a0 = 2 then (if (l1_4.length : Int) > 0 then (if 0 ≤ (wrap64 ((l1_4.length : Int) - 1)) then (if (wrap64 ((l1_4.length : Int) - 1)) ≤ (l1_4.length : Int) then (some (a1_0, a1_1, a1_2, a1_3, (l1_4.take ((wrap64 ((l1_4.length : Int) - 1)) : Int).toNat))) else (none)) else (none)) else (some (a1_0, a1_1, a1_2, a1_3, l1_4))) else (if a0 = 3 then ((r4Cont.f k a1_3).bind fun bt240 => (if bt240.2.2.2.2 = 0 then (if bt240.1 = true then ((r4PC.f k bt240.1 (wrap64 (bt240.2.1 + 1)) (wrap64 (bt240.2.2.1 + 1)) bt240.2.2.2.1).bind fun t246 => (some (a1_0, a1_1, a1_2, t246, l1_4))) else (some (a1_0, a1_1, a1_2, a1_3, l1_4))) else (some (a1_0, a1_1, a1_2, a1_3, l1_4)))) else (some (a1_0, a1_1, a1_2, a1_3, l1_4))))))
theorem spenceref24_Faulty.mono : ∀ a0 a1 a2 a3 a4 a5 k, LeO (spenceref24_Faulty.f k a0 a1 a2 a3 a4 a5) (spenceref24_Faulty.f (k + 1) a0 a1 a2 a3 a4 a5) := by
  intro a0 a1 a2 a3 a4 a5 k
  unfold spenceref24_Faulty.f
  repeat' first
      | (with_reducible exact r4Cont.mono _ _)
      | (with_reducible exact r4PC.mono _ _ _ _ _)
      | (with_reducible exact LeO.refl _)
      | (with_reducible exact LeO.none _)
      | (with_reducible refine LeO.ite ?_ ?_)
      | (with_reducible refine LeO.bind ?_ (fun _ => ?_))
      | exact r4Cont.mono _ _
      | exact r4PC.mono _ _ _ _ _
      | exact LeO.none _
      | refine LeO.ite ?_ ?_
      | refine LeO.bind ?_ (fun _ => ?_)
set_option maxHeartbeats 8000000 in
set_option maxRecDepth 100000 in
theorem spenceref24_Faulty.calls (k : Nat) (a0 : Int) (a1_0 : Int) (a1_1 : ByteArray) (a1_2 : Int) (a1_3 : ByteArray) (P1_4_ : Nat → Prop) (A1_4 : Option Addr) (c1_4 : Nat) (l1_4 : List Int) (r1 : Int) (r2 : ByteArray) (r3 : Int) (r4 : ByteArray) (r5 : List Int) (w : World) (hs1_4 : Kd.V (Kd.int .u8) 5 w w.heap.size (fun k_ => P1_4_ k_) (.slice A1_4 l1_4.length c1_4) l1_4) (h : spenceref24_Faulty.f k a0 a1_0 a1_1 a1_2 a1_3 l1_4 = some (r1, r2, r3, r4, r5)) :
    Calls Try.prog 10 #[.int .i64 a0, .agg #[.int .i64 a1_0, .string a1_1, .int .i64 a1_2, .string a1_3, .slice A1_4 l1_4.length c1_4]] w fun e w' => ∃ v4_ : Value, e = .returned (.agg #[.int .i64 r1, .string r2, .int .i64 r3, .string r4, v4_]) ∧ Kd.V (Kd.int .u8) 5 w' w.heap.size (fun k_ => (P1_4_ k_ ∨ w.heap.size ≤ k_)) v4_ r5 ∧ Below w.heap.size w w' := by
  have hu40 := Try.underlying40
  have hu59 := Try.underlying59
  have HO1_4 := AsZ.mk (show Kd.V (Kd.int .u8) 5 w w.heap.size (fun k_ => (P1_4_ k_ ∨ w.heap.size ≤ k_)) (.slice A1_4 l1_4.length c1_4) l1_4 from Kd.V_mono hs1_4 (fun k_ hk => .inl hk))
  have HB := AsZ.mk (Below.refl w.heap.size w)
  have H : (if a0 = 1 then (some (503, (⟨#[]⟩ : ByteArray), 0, (⟨#[]⟩ : ByteArray), ([] : List Int))) else (if a0 = 5 then (some (404, (⟨#[]⟩ : ByteArray), 0, (⟨#[]⟩ : ByteArray), ([] : List Int))) else (if a0 = 4 then (if a1_1.size + 1 ≤ 9223372036854775807 then (some (a1_0, a1_1 ++ (⟨#[34]⟩ : ByteArray), a1_2, a1_3, l1_4)) else (none)) else (if a0 = 2 then (if (l1_4.length : Int) > 0 then (if 0 ≤ (wrap64 ((l1_4.length : Int) - 1)) then (if (wrap64 ((l1_4.length : Int) - 1)) ≤ (l1_4.length : Int) then (some (a1_0, a1_1, a1_2, a1_3, (l1_4.take ((wrap64 ((l1_4.length : Int) - 1)) : Int).toNat))) else (none)) else (none)) else (some (a1_0, a1_1, a1_2, a1_3, l1_4))) else (if a0 = 3 then ((r4Cont.f k a1_3).bind fun bt240 => (if bt240.2.2.2.2 = 0 then (if bt240.1 = true then ((r4PC.f k bt240.1 (wrap64 (bt240.2.1 + 1)) (wrap64 (bt240.2.2.1 + 1)) bt240.2.2.2.1).bind fun t246 => (some (a1_0, a1_1, a1_2, t246, l1_4))) else (some (a1_0, a1_1, a1_2, a1_3, l1_4))) else (some (a1_0, a1_1, a1_2, a1_3, l1_4)))) else (some (a1_0, a1_1, a1_2, a1_3, l1_4))))))) = some (r1, r2, r3, r4, r5) := h
  clear h
  by_cases c3 : a0 = 1
  · rw [if_pos c3] at H
    have c3b0 : (a0 == 1) = true := beq_iff_eq.mpr c3
    have c3b1 : (a0 != 1) = false := bne_eq_false_iff_eq.mpr c3
    clear c3
    simp only [Option.some.injEq, Prod.mk.injEq] at H
    obtain ⟨rfl, rfl, rfl, rfl, rfl⟩ := H
    go_enter Try.func10, Try.ntmps10
    go_wp2_with (first | ((with_reducible refine gDs (N := 3) rfl ?_); refine bEv ?hg (N := 3) ?hd (cs := #[.int .i64 a1_0, .string a1_1, .int .i64 a1_2, .string a1_3, .slice A1_4 l1_4.length c1_4]) (t := 40) ?hr ?_; (case hd => rfl); (case hg => rfl); (case hr => first | (go_simp; done) | (go_simp; rfl)); intro gb233 hg w4 hbox hb; have n0_ := AsZ.mk (Kd.V_below (Kd.V_elderB (by (with_reducible repeat (first | apply Kd.V_alloc | apply Kd.V_drewN | apply Kd.V_drew)); exact HO1_4.out) gb233 (Nat.le_of_eq hg.symm)) hb); have n1_ := AsZ.mk (tBl (by repeat (first | (with_reducible first | exact HB.out | apply aBl | apply pBd | apply dBl) | exact HB.out)) hb); have n2_ := AsZ.mk (hbox); have n3_ := AsZ.mk ((by rw [hg]; exact (zBl (by repeat (first | (with_reducible first | exact HB.out | apply aBl | apply pBd | apply dBl) | exact HB.out))) : w.heap.size ≤ gb233)); have n4_ := AsZ.mk ((by rw [hg]; exact (zBl (by repeat (first | (with_reducible first | exact HB.out | apply aBl | apply pBd | apply dBl) | exact HB.out))) : w.heap.size ≤ gb233)); clear HO1_4; clear HB; have HO1_4 := n0_; have HB := n1_; have BK233 := n2_; have GW233 := n3_; have GE233 := n4_; clear n0_ n1_ n2_ n3_ n4_; clear hb hbox hg) | ((with_reducible refine gDs (N := 4) rfl ?_); refine bEv ?hg (N := 4) ?hd (cs := #[.int .i64 0, .string (⟨#[]⟩ : ByteArray), .int .i64 0, .string (⟨#[]⟩ : ByteArray), .slice none 0 0]) (t := 40) ?hr ?_; (case hd => rfl); (case hg => rfl); (case hr => first | (go_simp; done) | (go_simp; rfl)); intro gb234 hg w5 hbox hb; have n0_ := AsZ.mk (Kd.V_below (Kd.V_elderB (by (with_reducible repeat (first | apply Kd.V_alloc | apply Kd.V_drewN | apply Kd.V_drew)); exact HO1_4.out) gb234 (Nat.le_of_eq hg.symm)) hb); have n1_ := AsZ.mk (bBl (g := gb233) (o := .cells #[.int .i64 a1_0, .string a1_1, .int .i64 a1_2, .string a1_3, .slice A1_4 l1_4.length c1_4] 40 (0, 0)) (by (with_reducible repeat first | apply bDn | apply bDr | apply bAl); exact BK233.out) hb); have n2_ := AsZ.mk (tBl (by repeat (first | (with_reducible first | exact HB.out | apply aBl | apply pBd | apply dBl | refine sBl ?_ GE233.out) | exact HB.out)) hb); have n3_ := AsZ.mk (hbox); have n4_ := AsZ.mk ((by rw [hg]; exact (zBl (by repeat (first | (with_reducible first | exact HB.out | apply aBl | apply pBd | apply dBl | refine sBl ?_ GE233.out) | exact HB.out))) : w.heap.size ≤ gb234)); have n5_ := AsZ.mk ((by rw [hg]; exact (zBl (by repeat (first | (with_reducible first | exact HB.out | apply aBl | apply pBd | apply dBl | refine sBl ?_ GE233.out) | exact HB.out))) : w.heap.size ≤ gb234)); have n6_ := AsZ.mk ((by rw [hg]; exact Nat.ne_of_lt (bLt (g := gb233) (o := .cells #[.int .i64 a1_0, .string a1_1, .int .i64 a1_2, .string a1_3, .slice A1_4 l1_4.length c1_4] 40 (0, 0)) (by (with_reducible repeat first | apply bDn | apply bDr | apply bAl); exact BK233.out)) : gb233 ≠ gb234)); have n7_ := AsZ.mk ((by rw [hg]; exact Nat.ne_of_gt (bLt (g := gb233) (o := .cells #[.int .i64 a1_0, .string a1_1, .int .i64 a1_2, .string a1_3, .slice A1_4 l1_4.length c1_4] 40 (0, 0)) (by (with_reducible repeat first | apply bDn | apply bDr | apply bAl); exact BK233.out)) : gb234 ≠ gb233)); clear HO1_4; clear BK233; clear HB; have HO1_4 := n0_; have BK233 := n1_; have HB := n2_; have BK234 := n3_; have GW234 := n4_; have GE234 := n5_; have NB233_234 := n6_; have NB234_233 := n7_; clear n0_ n1_ n2_ n3_ n4_ n5_ n6_ n7_; clear hb hbox hg; have hnb6 := NB234_233.out; have hnc6 := NB233_234.out; obtain ⟨hcz7_0, hcz7_1, hcz7_2, hcz7_3, hcz7_4⟩ := celN5 BK234.out; obtain ⟨hfz7_0, hfz7_1, hfz7_2, hfz7_3, hfz7_4⟩ := fzN5 BK234.out))
    refine bodyPost_ret (results_cell_row rfl _ _ gb234 40 #[.int .i64 503, .string (⟨#[]⟩ : ByteArray), .int .i64 0, .string (⟨#[]⟩ : ByteArray), .slice none 0 0] (0, 0) _ rfl (by (with_reducible repeat first | apply bDn | apply bDr | apply bAl); refine bPu (cs := #[.int .i64 503, .string (⟨#[]⟩ : ByteArray), .int .i64 0, .string (⟨#[]⟩ : ByteArray), .slice none 0 0]) ?_ 4 _ rfl; (with_reducible repeat first | apply bDn | apply bDr | apply bAl); refine bPu (cs := #[.int .i64 503, .string (⟨#[]⟩ : ByteArray), .int .i64 0, .string (⟨#[]⟩ : ByteArray), .slice none 0 0]) ?_ 3 _ rfl; (with_reducible repeat first | apply bDn | apply bDr | apply bAl); refine bPu (cs := #[.int .i64 503, .string (⟨#[]⟩ : ByteArray), .int .i64 0, .string (⟨#[]⟩ : ByteArray), .slice none 0 0]) ?_ 2 _ rfl; (with_reducible repeat first | apply bDn | apply bDr | apply bAl); refine bPu (cs := #[.int .i64 503, .string (⟨#[]⟩ : ByteArray), .int .i64 0, .string (⟨#[]⟩ : ByteArray), .slice none 0 0]) ?_ 1 _ rfl; (with_reducible repeat first | apply bDn | apply bDr | apply bAl); refine bPu (cs := #[.int .i64 0, .string (⟨#[]⟩ : ByteArray), .int .i64 0, .string (⟨#[]⟩ : ByteArray), .slice none 0 0]) ?_ 0 _ rfl; (with_reducible repeat first | apply bDn | apply bDr | apply bAl); exact BK234.out) Try.underlying40 rfl (by kernel_rfl)) rfl ?_
    exact ⟨_, by first | rfl | (simp [eWn, eWs] <;> rfl) | (simp [*, eWn, eWs] <;> rfl), (by first | exact Kd.V_nil _ _ _ _ _), by repeat (first | (with_reducible first | exact HB.out | apply aBl | apply pBd | apply dBl | refine sBl ?_ GE233.out | refine sBl ?_ GE234.out) | exact HB.out)⟩
  · rw [if_neg c3] at H
    have c3b0 : (a0 == 1) = false := beq_eq_false_iff_ne.mpr c3
    have c3b1 : (a0 != 1) = true := bne_iff_ne.mpr c3
    by_cases c8 : a0 = 5
    · rw [if_pos c8] at H
      have c8b0 : (a0 == 5) = true := beq_iff_eq.mpr c8
      have c8b1 : (a0 != 5) = false := bne_eq_false_iff_eq.mpr c8
      clear c8
      simp only [Option.some.injEq, Prod.mk.injEq] at H
      obtain ⟨rfl, rfl, rfl, rfl, rfl⟩ := H
      go_enter Try.func10, Try.ntmps10
      go_wp2_with (first | ((with_reducible refine gDs (N := 3) rfl ?_); refine bEv ?hg (N := 3) ?hd (cs := #[.int .i64 a1_0, .string a1_1, .int .i64 a1_2, .string a1_3, .slice A1_4 l1_4.length c1_4]) (t := 40) ?hr ?_; (case hd => rfl); (case hg => rfl); (case hr => first | (go_simp; done) | (go_simp; rfl)); intro gb233 hg w9 hbox hb; have n0_ := AsZ.mk (Kd.V_below (Kd.V_elderB (by (with_reducible repeat (first | apply Kd.V_alloc | apply Kd.V_drewN | apply Kd.V_drew)); exact HO1_4.out) gb233 (Nat.le_of_eq hg.symm)) hb); have n1_ := AsZ.mk (tBl (by repeat (first | (with_reducible first | exact HB.out | apply aBl | apply pBd | apply dBl) | exact HB.out)) hb); have n2_ := AsZ.mk (hbox); have n3_ := AsZ.mk ((by rw [hg]; exact (zBl (by repeat (first | (with_reducible first | exact HB.out | apply aBl | apply pBd | apply dBl) | exact HB.out))) : w.heap.size ≤ gb233)); have n4_ := AsZ.mk ((by rw [hg]; exact (zBl (by repeat (first | (with_reducible first | exact HB.out | apply aBl | apply pBd | apply dBl) | exact HB.out))) : w.heap.size ≤ gb233)); clear HO1_4; clear HB; have HO1_4 := n0_; have HB := n1_; have BK233 := n2_; have GW233 := n3_; have GE233 := n4_; clear n0_ n1_ n2_ n3_ n4_; clear hb hbox hg) | ((with_reducible refine gDs (N := 4) rfl ?_); refine bEv ?hg (N := 4) ?hd (cs := #[.int .i64 0, .string (⟨#[]⟩ : ByteArray), .int .i64 0, .string (⟨#[]⟩ : ByteArray), .slice none 0 0]) (t := 40) ?hr ?_; (case hd => rfl); (case hg => rfl); (case hr => first | (go_simp; done) | (go_simp; rfl)); intro gb234 hg w10 hbox hb; have n0_ := AsZ.mk (Kd.V_below (Kd.V_elderB (by (with_reducible repeat (first | apply Kd.V_alloc | apply Kd.V_drewN | apply Kd.V_drew)); exact HO1_4.out) gb234 (Nat.le_of_eq hg.symm)) hb); have n1_ := AsZ.mk (bBl (g := gb233) (o := .cells #[.int .i64 a1_0, .string a1_1, .int .i64 a1_2, .string a1_3, .slice A1_4 l1_4.length c1_4] 40 (0, 0)) (by (with_reducible repeat first | apply bDn | apply bDr | apply bAl); exact BK233.out) hb); have n2_ := AsZ.mk (tBl (by repeat (first | (with_reducible first | exact HB.out | apply aBl | apply pBd | apply dBl | refine sBl ?_ GE233.out) | exact HB.out)) hb); have n3_ := AsZ.mk (hbox); have n4_ := AsZ.mk ((by rw [hg]; exact (zBl (by repeat (first | (with_reducible first | exact HB.out | apply aBl | apply pBd | apply dBl | refine sBl ?_ GE233.out) | exact HB.out))) : w.heap.size ≤ gb234)); have n5_ := AsZ.mk ((by rw [hg]; exact (zBl (by repeat (first | (with_reducible first | exact HB.out | apply aBl | apply pBd | apply dBl | refine sBl ?_ GE233.out) | exact HB.out))) : w.heap.size ≤ gb234)); have n6_ := AsZ.mk ((by rw [hg]; exact Nat.ne_of_lt (bLt (g := gb233) (o := .cells #[.int .i64 a1_0, .string a1_1, .int .i64 a1_2, .string a1_3, .slice A1_4 l1_4.length c1_4] 40 (0, 0)) (by (with_reducible repeat first | apply bDn | apply bDr | apply bAl); exact BK233.out)) : gb233 ≠ gb234)); have n7_ := AsZ.mk ((by rw [hg]; exact Nat.ne_of_gt (bLt (g := gb233) (o := .cells #[.int .i64 a1_0, .string a1_1, .int .i64 a1_2, .string a1_3, .slice A1_4 l1_4.length c1_4] 40 (0, 0)) (by (with_reducible repeat first | apply bDn | apply bDr | apply bAl); exact BK233.out)) : gb234 ≠ gb233)); clear HO1_4; clear BK233; clear HB; have HO1_4 := n0_; have BK233 := n1_; have HB := n2_; have BK234 := n3_; have GW234 := n4_; have GE234 := n5_; have NB233_234 := n6_; have NB234_233 := n7_; clear n0_ n1_ n2_ n3_ n4_ n5_ n6_ n7_; clear hb hbox hg; have hnb11 := NB234_233.out; have hnc11 := NB233_234.out; obtain ⟨hcz12_0, hcz12_1, hcz12_2, hcz12_3, hcz12_4⟩ := celN5 BK234.out; obtain ⟨hfz12_0, hfz12_1, hfz12_2, hfz12_3, hfz12_4⟩ := fzN5 BK234.out))
      refine bodyPost_ret (results_cell_row rfl _ _ gb234 40 #[.int .i64 404, .string (⟨#[]⟩ : ByteArray), .int .i64 0, .string (⟨#[]⟩ : ByteArray), .slice none 0 0] (0, 0) _ rfl (by (with_reducible repeat first | apply bDn | apply bDr | apply bAl); refine bPu (cs := #[.int .i64 404, .string (⟨#[]⟩ : ByteArray), .int .i64 0, .string (⟨#[]⟩ : ByteArray), .slice none 0 0]) ?_ 4 _ rfl; (with_reducible repeat first | apply bDn | apply bDr | apply bAl); refine bPu (cs := #[.int .i64 404, .string (⟨#[]⟩ : ByteArray), .int .i64 0, .string (⟨#[]⟩ : ByteArray), .slice none 0 0]) ?_ 3 _ rfl; (with_reducible repeat first | apply bDn | apply bDr | apply bAl); refine bPu (cs := #[.int .i64 404, .string (⟨#[]⟩ : ByteArray), .int .i64 0, .string (⟨#[]⟩ : ByteArray), .slice none 0 0]) ?_ 2 _ rfl; (with_reducible repeat first | apply bDn | apply bDr | apply bAl); refine bPu (cs := #[.int .i64 404, .string (⟨#[]⟩ : ByteArray), .int .i64 0, .string (⟨#[]⟩ : ByteArray), .slice none 0 0]) ?_ 1 _ rfl; (with_reducible repeat first | apply bDn | apply bDr | apply bAl); refine bPu (cs := #[.int .i64 0, .string (⟨#[]⟩ : ByteArray), .int .i64 0, .string (⟨#[]⟩ : ByteArray), .slice none 0 0]) ?_ 0 _ rfl; (with_reducible repeat first | apply bDn | apply bDr | apply bAl); exact BK234.out) Try.underlying40 rfl (by kernel_rfl)) rfl ?_
      exact ⟨_, by first | rfl | (simp [eWn, eWs] <;> rfl) | (simp [*, eWn, eWs] <;> rfl), (by first | exact Kd.V_nil _ _ _ _ _), by repeat (first | (with_reducible first | exact HB.out | apply aBl | apply pBd | apply dBl | refine sBl ?_ GE233.out | refine sBl ?_ GE234.out) | exact HB.out)⟩
    · rw [if_neg c8] at H
      have c8b0 : (a0 == 5) = false := beq_eq_false_iff_ne.mpr c8
      have c8b1 : (a0 != 5) = true := bne_iff_ne.mpr c8
      by_cases c13 : a0 = 4
      · rw [if_pos c13] at H
        have c13b0 : (a0 == 4) = true := beq_iff_eq.mpr c13
        have c13b1 : (a0 != 4) = false := bne_eq_false_iff_eq.mpr c13
        clear c13
        by_cases c14 : a1_1.size + 1 ≤ 9223372036854775807
        · rw [if_pos c14] at H
          have c14b0 := eq_true c14
          have c14b1 : decide (a1_1.size + 1 ≤ 9223372036854775807) = true := decide_eq_true c14
          try have c14b2 : (9223372036854775807 < a1_1.size + 1) = False := eq_false (Nat.not_lt.2 c14)
          simp only [Option.some.injEq, Prod.mk.injEq] at H
          obtain ⟨rfl, rfl, rfl, rfl, rfl⟩ := H
          go_enter Try.func10, Try.ntmps10
          go_wp2_with (first | ((with_reducible refine gDs (N := 3) rfl ?_); refine bEv ?hg (N := 3) ?hd (cs := #[.int .i64 a1_0, .string a1_1, .int .i64 a1_2, .string a1_3, .slice A1_4 l1_4.length c1_4]) (t := 40) ?hr ?_; (case hd => rfl); (case hg => rfl); (case hr => first | (go_simp; done) | (go_simp; rfl)); intro gb233 hg w15 hbox hb; have n0_ := AsZ.mk (Kd.V_below (Kd.V_elderB (by (with_reducible repeat (first | apply Kd.V_alloc | apply Kd.V_drewN | apply Kd.V_drew)); exact HO1_4.out) gb233 (Nat.le_of_eq hg.symm)) hb); have n1_ := AsZ.mk (tBl (by repeat (first | (with_reducible first | exact HB.out | apply aBl | apply pBd | apply dBl) | exact HB.out)) hb); have n2_ := AsZ.mk (hbox); have n3_ := AsZ.mk ((by rw [hg]; exact (zBl (by repeat (first | (with_reducible first | exact HB.out | apply aBl | apply pBd | apply dBl) | exact HB.out))) : w.heap.size ≤ gb233)); have n4_ := AsZ.mk ((by rw [hg]; exact (zBl (by repeat (first | (with_reducible first | exact HB.out | apply aBl | apply pBd | apply dBl) | exact HB.out))) : w.heap.size ≤ gb233)); clear HO1_4; clear HB; have HO1_4 := n0_; have HB := n1_; have BK233 := n2_; have GW233 := n3_; have GE233 := n4_; clear n0_ n1_ n2_ n3_ n4_; clear hb hbox hg) | ((with_reducible refine gDs (N := 4) rfl ?_); refine bEv ?hg (N := 4) ?hd (cs := #[.int .i64 0, .string (⟨#[]⟩ : ByteArray), .int .i64 0, .string (⟨#[]⟩ : ByteArray), .slice none 0 0]) (t := 40) ?hr ?_; (case hd => rfl); (case hg => rfl); (case hr => first | (go_simp; done) | (go_simp; rfl)); intro gb234 hg w16 hbox hb; have n0_ := AsZ.mk (Kd.V_below (Kd.V_elderB (by (with_reducible repeat (first | apply Kd.V_alloc | apply Kd.V_drewN | apply Kd.V_drew)); exact HO1_4.out) gb234 (Nat.le_of_eq hg.symm)) hb); have n1_ := AsZ.mk (bBl (g := gb233) (o := .cells #[.int .i64 a1_0, .string a1_1, .int .i64 a1_2, .string a1_3, .slice A1_4 l1_4.length c1_4] 40 (0, 0)) (by (with_reducible repeat first | apply bDn | apply bDr | apply bAl); exact BK233.out) hb); have n2_ := AsZ.mk (tBl (by repeat (first | (with_reducible first | exact HB.out | apply aBl | apply pBd | apply dBl | refine sBl ?_ GE233.out) | exact HB.out)) hb); have n3_ := AsZ.mk (hbox); have n4_ := AsZ.mk ((by rw [hg]; exact (zBl (by repeat (first | (with_reducible first | exact HB.out | apply aBl | apply pBd | apply dBl | refine sBl ?_ GE233.out) | exact HB.out))) : w.heap.size ≤ gb234)); have n5_ := AsZ.mk ((by rw [hg]; exact (zBl (by repeat (first | (with_reducible first | exact HB.out | apply aBl | apply pBd | apply dBl | refine sBl ?_ GE233.out) | exact HB.out))) : w.heap.size ≤ gb234)); have n6_ := AsZ.mk ((by rw [hg]; exact Nat.ne_of_lt (bLt (g := gb233) (o := .cells #[.int .i64 a1_0, .string a1_1, .int .i64 a1_2, .string a1_3, .slice A1_4 l1_4.length c1_4] 40 (0, 0)) (by (with_reducible repeat first | apply bDn | apply bDr | apply bAl); exact BK233.out)) : gb233 ≠ gb234)); have n7_ := AsZ.mk ((by rw [hg]; exact Nat.ne_of_gt (bLt (g := gb233) (o := .cells #[.int .i64 a1_0, .string a1_1, .int .i64 a1_2, .string a1_3, .slice A1_4 l1_4.length c1_4] 40 (0, 0)) (by (with_reducible repeat first | apply bDn | apply bDr | apply bAl); exact BK233.out)) : gb234 ≠ gb233)); clear HO1_4; clear BK233; clear HB; have HO1_4 := n0_; have BK233 := n1_; have HB := n2_; have BK234 := n3_; have GW234 := n4_; have GE234 := n5_; have NB233_234 := n6_; have NB234_233 := n7_; clear n0_ n1_ n2_ n3_ n4_ n5_ n6_ n7_; clear hb hbox hg; have hnb17 := NB233_234.out; have hnc17 := NB234_233.out; obtain ⟨hcz18_0, hcz18_1, hcz18_2, hcz18_3, hcz18_4⟩ := celN5 BK233.out; obtain ⟨hfz18_0, hfz18_1, hfz18_2, hfz18_3, hfz18_4⟩ := fzN5 BK233.out; obtain ⟨hcz19_0, hcz19_1, hcz19_2, hcz19_3, hcz19_4⟩ := celN5 BK234.out; obtain ⟨hfz19_0, hfz19_1, hfz19_2, hfz19_3, hfz19_4⟩ := fzN5 BK234.out))
          refine bodyPost_ret (results_cell_row rfl _ _ gb234 40 #[.int .i64 a1_0, .string (a1_1 ++ (⟨#[34]⟩ : ByteArray)), .int .i64 a1_2, .string a1_3, .slice A1_4 l1_4.length c1_4] (0, 0) _ rfl (by (with_reducible repeat first | apply bDn | apply bDr | apply bAl); refine bPu (cs := #[.int .i64 a1_0, .string (a1_1 ++ (⟨#[34]⟩ : ByteArray)), .int .i64 a1_2, .string a1_3, .slice none 0 0]) ?_ 4 _ rfl; (with_reducible repeat first | apply bDn | apply bDr | apply bAl); refine bPu (cs := #[.int .i64 a1_0, .string (a1_1 ++ (⟨#[34]⟩ : ByteArray)), .int .i64 a1_2, .string (⟨#[]⟩ : ByteArray), .slice none 0 0]) ?_ 3 _ rfl; (with_reducible repeat first | apply bDn | apply bDr | apply bAl); refine bPu (cs := #[.int .i64 a1_0, .string (a1_1 ++ (⟨#[34]⟩ : ByteArray)), .int .i64 0, .string (⟨#[]⟩ : ByteArray), .slice none 0 0]) ?_ 2 _ rfl; (with_reducible repeat first | apply bDn | apply bDr | apply bAl); refine bPu (cs := #[.int .i64 a1_0, .string (⟨#[]⟩ : ByteArray), .int .i64 0, .string (⟨#[]⟩ : ByteArray), .slice none 0 0]) ?_ 1 _ rfl; (with_reducible repeat first | apply bDn | apply bDr | apply bAl); refine bPu (cs := #[.int .i64 0, .string (⟨#[]⟩ : ByteArray), .int .i64 0, .string (⟨#[]⟩ : ByteArray), .slice none 0 0]) ?_ 0 _ rfl; (with_reducible repeat first | apply bDn | apply bDr | apply bAl); refine bFr ?_ NB234_233.out _; (with_reducible repeat first | apply bDn | apply bDr | apply bAl); exact BK234.out) Try.underlying40 rfl (by kernel_rfl)) rfl ?_
          exact ⟨_, by first | rfl | (simp [eWn, eWs] <;> rfl) | (simp [*, eWn, eWs] <;> rfl), by (with_reducible repeat (first | apply Kd.V_alloc | apply Kd.V_drewN | apply Kd.V_drew)); exact Kd.V_mono (Kd.V_far (p := ⟨gb234, 4, none⟩) (Kd.V_far (p := ⟨gb234, 3, none⟩) (Kd.V_far (p := ⟨gb234, 2, none⟩) (Kd.V_far (p := ⟨gb234, 1, none⟩) (Kd.V_far (p := ⟨gb234, 0, none⟩) (Kd.V_far (p := ⟨gb233, 1, none⟩) (Kd.V_mono (Kd.V_mono HO1_4.out (fun k_ hk => (⟨hk, hk.1.2⟩ : _ ∧ k_ ≠ gb233))) (fun k_ hk => (⟨hk, hk.1.2⟩ : _ ∧ k_ ≠ gb234))) (fun _ hk => hk.1.2) (.string (a1_1 ++ (⟨#[34]⟩ : ByteArray)))) (fun _ hk => hk.2) (.int .i64 a1_0)) (fun _ hk => hk.2) (.string (a1_1 ++ (⟨#[34]⟩ : ByteArray)))) (fun _ hk => hk.2) (.int .i64 a1_2)) (fun _ hk => hk.2) (.string a1_3)) (fun _ hk => hk.2) (.slice A1_4 l1_4.length c1_4)) (fun _ hk => hk.1.1.1.1), by repeat (first | (with_reducible first | exact HB.out | apply aBl | apply pBd | apply dBl | refine sBl ?_ GE233.out | refine sBl ?_ GE234.out) | exact HB.out)⟩
        · rw [if_neg c14] at H
          exact absurd H (by simp)
      · rw [if_neg c13] at H
        have c13b0 : (a0 == 4) = false := beq_eq_false_iff_ne.mpr c13
        have c13b1 : (a0 != 4) = true := bne_iff_ne.mpr c13
        by_cases c20 : a0 = 2
        · rw [if_pos c20] at H
          have c20b0 : (a0 == 2) = true := beq_iff_eq.mpr c20
          have c20b1 : (a0 != 2) = false := bne_eq_false_iff_eq.mpr c20
          clear c20
          by_cases c21 : (l1_4.length : Int) > 0
          · rw [if_pos c21] at H
            have c21b0 : decide (0 < (l1_4.length : Int)) = true := decide_eq_true c21
            have c21b1 : decide (0 < l1_4.length) = true := decide_eq_true (by omega)
            clear c21
            obtain ⟨ji22, hji22⟩ : ∃ j_ : Int, (wrap64 ((l1_4.length : Int) - 1)) = j_ := ⟨_, rfl⟩
            replace H : (if 0 ≤ (ji22) then (if (ji22) ≤ (l1_4.length : Int) then (some (a1_0, a1_1, a1_2, a1_3, (l1_4.take ((ji22) : Int).toNat))) else (none)) else (none)) = some (r1, r2, r3, r4, r5) := by first | (rw [hji22] at H; exact H) | (simp only [hji22] at H ⊢; exact H)
            have hji22w : (IntKind.i64.wrap ((l1_4.length : Int) - 1)) = ji22 := (i64_w _).trans hji22
            by_cases c23 : 0 ≤ (ji22)
            · rw [if_pos c23] at H
              have c23b0 := eq_true c23
              have c23b1 : decide (0 ≤ (ji22)) = true := decide_eq_true c23
              clear c23
              by_cases c24 : (ji22) ≤ (l1_4.length : Int)
              · rw [if_pos c24] at H
                have c24b0 := eq_true c24
                have c24b1 : decide ((ji22) ≤ (l1_4.length : Int)) = true := decide_eq_true c24
                clear c24
                obtain ⟨y235, hy235⟩ : ∃ y_ : List Int, y_ = (l1_4.take ((ji22) : Int).toNat) := ⟨_, rfl⟩
                replace H : (some (a1_0, a1_1, a1_2, a1_3, y235)) = some (r1, r2, r3, r4, r5) := by first | (rw [hy235]; with_reducible exact H) | (have H2_ := (Option.bind_some _ _).symm.trans H; rw [hy235]; with_reducible exact H2_) | (have H2_ := (Option.bind_some _ _).symm.trans H; with_reducible exact H2_) | with_reducible exact H | (rw [hy235]; exact H) | exact H
                have Ny235 := AsZ.mk hy235
                clear hy235
                simp only [Option.some.injEq, Prod.mk.injEq] at H
                obtain ⟨rfl, rfl, rfl, rfl, rfl⟩ := H
                go_enter Try.func10, Try.ntmps10
                go_wp2_with (first | ((with_reducible refine gDs (N := 3) rfl ?_); refine bEv ?hg (N := 3) ?hd (cs := #[.int .i64 a1_0, .string a1_1, .int .i64 a1_2, .string a1_3, .slice A1_4 l1_4.length c1_4]) (t := 40) ?hr ?_; (case hd => rfl); (case hg => rfl); (case hr => first | (go_simp; done) | (go_simp; rfl)); intro gb233 hg w25 hbox hb; have n0_ := AsZ.mk (Kd.V_below (Kd.V_elderB (by (with_reducible repeat (first | apply Kd.V_alloc | apply Kd.V_drewN | apply Kd.V_drew)); exact HO1_4.out) gb233 (Nat.le_of_eq hg.symm)) hb); have n1_ := AsZ.mk (tBl (by repeat (first | (with_reducible first | exact HB.out | apply aBl | apply pBd | apply dBl) | exact HB.out)) hb); have n2_ := AsZ.mk (hbox); have n3_ := AsZ.mk ((by rw [hg]; exact (zBl (by repeat (first | (with_reducible first | exact HB.out | apply aBl | apply pBd | apply dBl) | exact HB.out))) : w.heap.size ≤ gb233)); have n4_ := AsZ.mk ((by rw [hg]; exact (zBl (by repeat (first | (with_reducible first | exact HB.out | apply aBl | apply pBd | apply dBl) | exact HB.out))) : w.heap.size ≤ gb233)); clear HO1_4; clear HB; have HO1_4 := n0_; have HB := n1_; have BK233 := n2_; have GW233 := n3_; have GE233 := n4_; clear n0_ n1_ n2_ n3_ n4_; clear hb hbox hg) | ((with_reducible refine gDs (N := 4) rfl ?_); refine bEv ?hg (N := 4) ?hd (cs := #[.int .i64 0, .string (⟨#[]⟩ : ByteArray), .int .i64 0, .string (⟨#[]⟩ : ByteArray), .slice none 0 0]) (t := 40) ?hr ?_; (case hd => rfl); (case hg => rfl); (case hr => first | (go_simp; done) | (go_simp; rfl)); intro gb234 hg w26 hbox hb; have n0_ := AsZ.mk (Kd.V_below (Kd.V_elderB (by (with_reducible repeat (first | apply Kd.V_alloc | apply Kd.V_drewN | apply Kd.V_drew)); exact HO1_4.out) gb234 (Nat.le_of_eq hg.symm)) hb); have n1_ := AsZ.mk (bBl (g := gb233) (o := .cells #[.int .i64 a1_0, .string a1_1, .int .i64 a1_2, .string a1_3, .slice A1_4 l1_4.length c1_4] 40 (0, 0)) (by (with_reducible repeat first | apply bDn | apply bDr | apply bAl); exact BK233.out) hb); have n2_ := AsZ.mk (tBl (by repeat (first | (with_reducible first | exact HB.out | apply aBl | apply pBd | apply dBl | refine sBl ?_ GE233.out) | exact HB.out)) hb); have n3_ := AsZ.mk (hbox); have n4_ := AsZ.mk ((by rw [hg]; exact (zBl (by repeat (first | (with_reducible first | exact HB.out | apply aBl | apply pBd | apply dBl | refine sBl ?_ GE233.out) | exact HB.out))) : w.heap.size ≤ gb234)); have n5_ := AsZ.mk ((by rw [hg]; exact (zBl (by repeat (first | (with_reducible first | exact HB.out | apply aBl | apply pBd | apply dBl | refine sBl ?_ GE233.out) | exact HB.out))) : w.heap.size ≤ gb234)); have n6_ := AsZ.mk ((by rw [hg]; exact Nat.ne_of_lt (bLt (g := gb233) (o := .cells #[.int .i64 a1_0, .string a1_1, .int .i64 a1_2, .string a1_3, .slice A1_4 l1_4.length c1_4] 40 (0, 0)) (by (with_reducible repeat first | apply bDn | apply bDr | apply bAl); exact BK233.out)) : gb233 ≠ gb234)); have n7_ := AsZ.mk ((by rw [hg]; exact Nat.ne_of_gt (bLt (g := gb233) (o := .cells #[.int .i64 a1_0, .string a1_1, .int .i64 a1_2, .string a1_3, .slice A1_4 l1_4.length c1_4] 40 (0, 0)) (by (with_reducible repeat first | apply bDn | apply bDr | apply bAl); exact BK233.out)) : gb234 ≠ gb233)); clear HO1_4; clear BK233; clear HB; have HO1_4 := n0_; have BK233 := n1_; have HB := n2_; have BK234 := n3_; have GW234 := n4_; have GE234 := n5_; have NB233_234 := n6_; have NB234_233 := n7_; clear n0_ n1_ n2_ n3_ n4_ n5_ n6_ n7_; clear hb hbox hg; have hnb27 := NB233_234.out; have hnc27 := NB234_233.out; obtain ⟨hcz28_0, hcz28_1, hcz28_2, hcz28_3, hcz28_4⟩ := celN5 BK233.out; obtain ⟨hfz28_0, hfz28_1, hfz28_2, hfz28_3, hfz28_4⟩ := fzN5 BK233.out; have q29 : ((ji22) : Int) ≤ ((l1_4.length : Int) : Int) := of_decide_eq_true (by first | (with_reducible assumption) | assumption); obtain ⟨i029, hi029, _, hsz29, _⟩ := info_parts info5; have hroom29 : l1_4.length ≤ c1_4 := (Kd.V_reads' HO1_4.out).2.1; have hC29 : Kd.F (Kd.int .u8) _ _ A1_4 l1_4.length l1_4 := (Kd.V_at (base := w.heap.size) HO1_4.out).2.2; have hcut29 := cut_to (P := Try.prog) 38 5 .i64 Try.underlying38 hi029 A1_4 l1_4.length c1_4 (ji22) (of_decide_eq_true (by first | (with_reducible assumption) | assumption)) q29 hroom29; have hr29 := Kd.F_take (m := ((ji22) : Int).toNat) hC29 (by omega); have hy29 : y235.length = ((ji22) : Int).toNat := (by rw [Ny235.out, List.length_take]; omega); rw [← Ny235.out] at hr29; rw [← hy29] at hcut29; have HO239 := AsZ.mk (show Kd.V (Kd.int .u8) 5 _ w.heap.size _ (.slice A1_4 y235.length c1_4) y235 from Kd.V_mk (by omega) hr29); have HC239 := AsZ.mk (show y235.length ≤ c1_4 from by omega); clear hr29 hC29 hroom29 hi029 hsz29; have KY29 := AsZ.mk hy29; clear hy29; replace q29 := eq_true q29; obtain ⟨hcz30_0, hcz30_1, hcz30_2, hcz30_3, hcz30_4⟩ := celN5 BK234.out; obtain ⟨hfz30_0, hfz30_1, hfz30_2, hfz30_3, hfz30_4⟩ := fzN5 BK234.out))
                refine bodyPost_ret (results_cell_row rfl _ _ gb234 40 #[.int .i64 a1_0, .string a1_1, .int .i64 a1_2, .string a1_3, .slice A1_4 y235.length c1_4] (0, 0) _ rfl (by (with_reducible repeat first | apply bDn | apply bDr | apply bAl); refine bPu (cs := #[.int .i64 a1_0, .string a1_1, .int .i64 a1_2, .string a1_3, .slice none 0 0]) ?_ 4 _ rfl; (with_reducible repeat first | apply bDn | apply bDr | apply bAl); refine bPu (cs := #[.int .i64 a1_0, .string a1_1, .int .i64 a1_2, .string (⟨#[]⟩ : ByteArray), .slice none 0 0]) ?_ 3 _ rfl; (with_reducible repeat first | apply bDn | apply bDr | apply bAl); refine bPu (cs := #[.int .i64 a1_0, .string a1_1, .int .i64 0, .string (⟨#[]⟩ : ByteArray), .slice none 0 0]) ?_ 2 _ rfl; (with_reducible repeat first | apply bDn | apply bDr | apply bAl); refine bPu (cs := #[.int .i64 a1_0, .string (⟨#[]⟩ : ByteArray), .int .i64 0, .string (⟨#[]⟩ : ByteArray), .slice none 0 0]) ?_ 1 _ rfl; (with_reducible repeat first | apply bDn | apply bDr | apply bAl); refine bPu (cs := #[.int .i64 0, .string (⟨#[]⟩ : ByteArray), .int .i64 0, .string (⟨#[]⟩ : ByteArray), .slice none 0 0]) ?_ 0 _ rfl; (with_reducible repeat first | apply bDn | apply bDr | apply bAl); refine bFr ?_ NB234_233.out _; (with_reducible repeat first | apply bDn | apply bDr | apply bAl); exact BK234.out) Try.underlying40 rfl (by kernel_rfl)) rfl ?_
                exact ⟨_, by first | rfl | (simp [eWn, eWs] <;> rfl) | (simp only [← hji22]; first | rfl | (simp [eWn, eWs] <;> rfl)) | (simp [*, eWn, eWs] <;> rfl), by (with_reducible repeat (first | apply Kd.V_alloc | apply Kd.V_drewN | apply Kd.V_drew)); exact Kd.V_mono (Kd.V_far (p := ⟨gb234, 4, none⟩) (Kd.V_far (p := ⟨gb234, 3, none⟩) (Kd.V_far (p := ⟨gb234, 2, none⟩) (Kd.V_far (p := ⟨gb234, 1, none⟩) (Kd.V_far (p := ⟨gb234, 0, none⟩) (Kd.V_far (p := ⟨gb233, 4, none⟩) (Kd.V_mono (Kd.V_mono HO239.out (fun k_ hk => (⟨hk, hk.1.2⟩ : _ ∧ k_ ≠ gb233))) (fun k_ hk => (⟨hk, hk.1.2⟩ : _ ∧ k_ ≠ gb234))) (fun _ hk => hk.1.2) (.slice A1_4 y235.length c1_4)) (fun _ hk => hk.2) (.int .i64 a1_0)) (fun _ hk => hk.2) (.string a1_1)) (fun _ hk => hk.2) (.int .i64 a1_2)) (fun _ hk => hk.2) (.string a1_3)) (fun _ hk => hk.2) (.slice A1_4 y235.length c1_4)) (fun _ hk => hk.1.1.1.1), by repeat (first | (with_reducible first | exact HB.out | apply aBl | apply pBd | apply dBl | refine sBl ?_ GE233.out | refine sBl ?_ GE234.out) | exact HB.out)⟩
              · rw [if_neg c24] at H
                exact absurd H (by simp)
            · rw [if_neg c23] at H
              exact absurd H (by simp)
          · rw [if_neg c21] at H
            have c21b0 : decide (0 < (l1_4.length : Int)) = false := decide_eq_false c21
            have c21b1 : decide (0 < l1_4.length) = false := decide_eq_false (by omega)
            clear c21
            simp only [Option.some.injEq, Prod.mk.injEq] at H
            obtain ⟨rfl, rfl, rfl, rfl, rfl⟩ := H
            go_enter Try.func10, Try.ntmps10
            go_wp2_with (first | ((with_reducible refine gDs (N := 3) rfl ?_); refine bEv ?hg (N := 3) ?hd (cs := #[.int .i64 a1_0, .string a1_1, .int .i64 a1_2, .string a1_3, .slice A1_4 l1_4.length c1_4]) (t := 40) ?hr ?_; (case hd => rfl); (case hg => rfl); (case hr => first | (go_simp; done) | (go_simp; rfl)); intro gb233 hg w31 hbox hb; have n0_ := AsZ.mk (Kd.V_below (Kd.V_elderB (by (with_reducible repeat (first | apply Kd.V_alloc | apply Kd.V_drewN | apply Kd.V_drew)); exact HO1_4.out) gb233 (Nat.le_of_eq hg.symm)) hb); have n1_ := AsZ.mk (tBl (by repeat (first | (with_reducible first | exact HB.out | apply aBl | apply pBd | apply dBl) | exact HB.out)) hb); have n2_ := AsZ.mk (hbox); have n3_ := AsZ.mk ((by rw [hg]; exact (zBl (by repeat (first | (with_reducible first | exact HB.out | apply aBl | apply pBd | apply dBl) | exact HB.out))) : w.heap.size ≤ gb233)); have n4_ := AsZ.mk ((by rw [hg]; exact (zBl (by repeat (first | (with_reducible first | exact HB.out | apply aBl | apply pBd | apply dBl) | exact HB.out))) : w.heap.size ≤ gb233)); clear HO1_4; clear HB; have HO1_4 := n0_; have HB := n1_; have BK233 := n2_; have GW233 := n3_; have GE233 := n4_; clear n0_ n1_ n2_ n3_ n4_; clear hb hbox hg) | ((with_reducible refine gDs (N := 4) rfl ?_); refine bEv ?hg (N := 4) ?hd (cs := #[.int .i64 0, .string (⟨#[]⟩ : ByteArray), .int .i64 0, .string (⟨#[]⟩ : ByteArray), .slice none 0 0]) (t := 40) ?hr ?_; (case hd => rfl); (case hg => rfl); (case hr => first | (go_simp; done) | (go_simp; rfl)); intro gb234 hg w32 hbox hb; have n0_ := AsZ.mk (Kd.V_below (Kd.V_elderB (by (with_reducible repeat (first | apply Kd.V_alloc | apply Kd.V_drewN | apply Kd.V_drew)); exact HO1_4.out) gb234 (Nat.le_of_eq hg.symm)) hb); have n1_ := AsZ.mk (bBl (g := gb233) (o := .cells #[.int .i64 a1_0, .string a1_1, .int .i64 a1_2, .string a1_3, .slice A1_4 l1_4.length c1_4] 40 (0, 0)) (by (with_reducible repeat first | apply bDn | apply bDr | apply bAl); exact BK233.out) hb); have n2_ := AsZ.mk (tBl (by repeat (first | (with_reducible first | exact HB.out | apply aBl | apply pBd | apply dBl | refine sBl ?_ GE233.out) | exact HB.out)) hb); have n3_ := AsZ.mk (hbox); have n4_ := AsZ.mk ((by rw [hg]; exact (zBl (by repeat (first | (with_reducible first | exact HB.out | apply aBl | apply pBd | apply dBl | refine sBl ?_ GE233.out) | exact HB.out))) : w.heap.size ≤ gb234)); have n5_ := AsZ.mk ((by rw [hg]; exact (zBl (by repeat (first | (with_reducible first | exact HB.out | apply aBl | apply pBd | apply dBl | refine sBl ?_ GE233.out) | exact HB.out))) : w.heap.size ≤ gb234)); have n6_ := AsZ.mk ((by rw [hg]; exact Nat.ne_of_lt (bLt (g := gb233) (o := .cells #[.int .i64 a1_0, .string a1_1, .int .i64 a1_2, .string a1_3, .slice A1_4 l1_4.length c1_4] 40 (0, 0)) (by (with_reducible repeat first | apply bDn | apply bDr | apply bAl); exact BK233.out)) : gb233 ≠ gb234)); have n7_ := AsZ.mk ((by rw [hg]; exact Nat.ne_of_gt (bLt (g := gb233) (o := .cells #[.int .i64 a1_0, .string a1_1, .int .i64 a1_2, .string a1_3, .slice A1_4 l1_4.length c1_4] 40 (0, 0)) (by (with_reducible repeat first | apply bDn | apply bDr | apply bAl); exact BK233.out)) : gb234 ≠ gb233)); clear HO1_4; clear BK233; clear HB; have HO1_4 := n0_; have BK233 := n1_; have HB := n2_; have BK234 := n3_; have GW234 := n4_; have GE234 := n5_; have NB233_234 := n6_; have NB234_233 := n7_; clear n0_ n1_ n2_ n3_ n4_ n5_ n6_ n7_; clear hb hbox hg; have hnb33 := NB233_234.out; have hnc33 := NB234_233.out; obtain ⟨hcz34_0, hcz34_1, hcz34_2, hcz34_3, hcz34_4⟩ := celN5 BK233.out; obtain ⟨hfz34_0, hfz34_1, hfz34_2, hfz34_3, hfz34_4⟩ := fzN5 BK233.out; obtain ⟨hcz35_0, hcz35_1, hcz35_2, hcz35_3, hcz35_4⟩ := celN5 BK234.out; obtain ⟨hfz35_0, hfz35_1, hfz35_2, hfz35_3, hfz35_4⟩ := fzN5 BK234.out))
            refine bodyPost_ret (results_cell_row rfl _ _ gb234 40 #[.int .i64 a1_0, .string a1_1, .int .i64 a1_2, .string a1_3, .slice A1_4 l1_4.length c1_4] (0, 0) _ rfl (by (with_reducible repeat first | apply bDn | apply bDr | apply bAl); refine bPu (cs := #[.int .i64 a1_0, .string a1_1, .int .i64 a1_2, .string a1_3, .slice none 0 0]) ?_ 4 _ rfl; (with_reducible repeat first | apply bDn | apply bDr | apply bAl); refine bPu (cs := #[.int .i64 a1_0, .string a1_1, .int .i64 a1_2, .string (⟨#[]⟩ : ByteArray), .slice none 0 0]) ?_ 3 _ rfl; (with_reducible repeat first | apply bDn | apply bDr | apply bAl); refine bPu (cs := #[.int .i64 a1_0, .string a1_1, .int .i64 0, .string (⟨#[]⟩ : ByteArray), .slice none 0 0]) ?_ 2 _ rfl; (with_reducible repeat first | apply bDn | apply bDr | apply bAl); refine bPu (cs := #[.int .i64 a1_0, .string (⟨#[]⟩ : ByteArray), .int .i64 0, .string (⟨#[]⟩ : ByteArray), .slice none 0 0]) ?_ 1 _ rfl; (with_reducible repeat first | apply bDn | apply bDr | apply bAl); refine bPu (cs := #[.int .i64 0, .string (⟨#[]⟩ : ByteArray), .int .i64 0, .string (⟨#[]⟩ : ByteArray), .slice none 0 0]) ?_ 0 _ rfl; (with_reducible repeat first | apply bDn | apply bDr | apply bAl); exact BK234.out) Try.underlying40 rfl (by kernel_rfl)) rfl ?_
            exact ⟨_, by first | rfl | (simp [eWn, eWs] <;> rfl) | (simp [*, eWn, eWs] <;> rfl), by (with_reducible repeat (first | apply Kd.V_alloc | apply Kd.V_drewN | apply Kd.V_drew)); exact Kd.V_mono (Kd.V_far (p := ⟨gb234, 4, none⟩) (Kd.V_far (p := ⟨gb234, 3, none⟩) (Kd.V_far (p := ⟨gb234, 2, none⟩) (Kd.V_far (p := ⟨gb234, 1, none⟩) (Kd.V_far (p := ⟨gb234, 0, none⟩) (Kd.V_mono HO1_4.out (fun k_ hk => (⟨hk, hk.2⟩ : _ ∧ k_ ≠ gb234))) (fun _ hk => hk.2) (.int .i64 a1_0)) (fun _ hk => hk.2) (.string a1_1)) (fun _ hk => hk.2) (.int .i64 a1_2)) (fun _ hk => hk.2) (.string a1_3)) (fun _ hk => hk.2) (.slice A1_4 l1_4.length c1_4)) (fun _ hk => hk.1.1.1), by repeat (first | (with_reducible first | exact HB.out | apply aBl | apply pBd | apply dBl | refine sBl ?_ GE233.out | refine sBl ?_ GE234.out) | exact HB.out)⟩
        · rw [if_neg c20] at H
          have c20b0 : (a0 == 2) = false := beq_eq_false_iff_ne.mpr c20
          have c20b1 : (a0 != 2) = true := bne_iff_ne.mpr c20
          by_cases c36 : a0 = 3
          · rw [if_pos c36] at H
            have c36b0 : (a0 == 3) = true := beq_iff_eq.mpr c36
            have c36b1 : (a0 != 3) = false := bne_eq_false_iff_eq.mpr c36
            clear c36
            replace H := Option.bind_eq_some_iff.mp H
            obtain ⟨⟨t240, t241, t242, t243, t244⟩, A370, H⟩ := H
            replace H : (if t244 = 0 then (if t240 = true then ((r4PC.f k t240 (wrap64 (t241 + 1)) (wrap64 (t242 + 1)) t243).bind fun t246 => (some (a1_0, a1_1, a1_2, t246, l1_4))) else (some (a1_0, a1_1, a1_2, a1_3, l1_4))) else (some (a1_0, a1_1, a1_2, a1_3, l1_4))) = some (r1, r2, r3, r4, r5) := H
            have A37 := AsZ.mk A370
            clear A370
            by_cases c38 : t244 = 0
            · rw [if_pos c38] at H
              have c38b0 : (t244 == 0) = true := beq_iff_eq.mpr c38
              have c38b1 : (t244 != 0) = false := bne_eq_false_iff_eq.mpr c38
              clear c38
              by_cases c39 : t240 = true
              · subst c39
                have H1 : ((r4PC.f k true (wrap64 (t241 + 1)) (wrap64 (t242 + 1)) t243).bind fun t246 => (some (a1_0, a1_1, a1_2, t246, l1_4))) = some (r1, r2, r3, r4, r5) := by rw [if_pos rfl] at H; exact H
                clear H
                have H := H1
                clear H1
                replace H := Option.bind_eq_some_iff.mp H
                obtain ⟨t246, A400, H⟩ := H
                replace H : (some (a1_0, a1_1, a1_2, t246, l1_4)) = some (r1, r2, r3, r4, r5) := H
                have A40 := AsZ.mk A400
                clear A400
                simp only [Option.some.injEq, Prod.mk.injEq] at H
                obtain ⟨rfl, rfl, rfl, rfl, rfl⟩ := H
                go_enter Try.func10, Try.ntmps10
                go_upto_region 16 with (first | ((with_reducible refine gDs (N := 3) rfl ?_); refine bEv ?hg (N := 3) ?hd (cs := #[.int .i64 a1_0, .string a1_1, .int .i64 a1_2, .string a1_3, .slice A1_4 l1_4.length c1_4]) (t := 40) ?hr ?_; (case hd => rfl); (case hg => rfl); (case hr => first | (go_simp; done) | (go_simp; rfl)); intro gb233 hg w41 hbox hb; have n0_ := AsZ.mk (Kd.V_below (Kd.V_elderB (by (with_reducible repeat (first | apply Kd.V_alloc | apply Kd.V_drewN | apply Kd.V_drew)); exact HO1_4.out) gb233 (Nat.le_of_eq hg.symm)) hb); have n1_ := AsZ.mk (tBl (by repeat (first | (with_reducible first | exact HB.out | apply aBl | apply pBd | apply dBl) | exact HB.out)) hb); have n2_ := AsZ.mk (hbox); have n3_ := AsZ.mk ((by rw [hg]; exact (zBl (by repeat (first | (with_reducible first | exact HB.out | apply aBl | apply pBd | apply dBl) | exact HB.out))) : w.heap.size ≤ gb233)); have n4_ := AsZ.mk ((by rw [hg]; exact (zBl (by repeat (first | (with_reducible first | exact HB.out | apply aBl | apply pBd | apply dBl) | exact HB.out))) : w.heap.size ≤ gb233)); clear HO1_4; clear HB; have HO1_4 := n0_; have HB := n1_; have BK233 := n2_; have GW233 := n3_; have GE233 := n4_; clear n0_ n1_ n2_ n3_ n4_; clear hb hbox hg) | ((with_reducible refine gDs (N := 4) rfl ?_); refine bEv ?hg (N := 4) ?hd (cs := #[.int .i64 0, .string (⟨#[]⟩ : ByteArray), .int .i64 0, .string (⟨#[]⟩ : ByteArray), .slice none 0 0]) (t := 40) ?hr ?_; (case hd => rfl); (case hg => rfl); (case hr => first | (go_simp; done) | (go_simp; rfl)); intro gb234 hg w42 hbox hb; have n0_ := AsZ.mk (Kd.V_below (Kd.V_elderB (by (with_reducible repeat (first | apply Kd.V_alloc | apply Kd.V_drewN | apply Kd.V_drew)); exact HO1_4.out) gb234 (Nat.le_of_eq hg.symm)) hb); have n1_ := AsZ.mk (bBl (g := gb233) (o := .cells #[.int .i64 a1_0, .string a1_1, .int .i64 a1_2, .string a1_3, .slice A1_4 l1_4.length c1_4] 40 (0, 0)) (by (with_reducible repeat first | apply bDn | apply bDr | apply bAl); exact BK233.out) hb); have n2_ := AsZ.mk (tBl (by repeat (first | (with_reducible first | exact HB.out | apply aBl | apply pBd | apply dBl | refine sBl ?_ GE233.out) | exact HB.out)) hb); have n3_ := AsZ.mk (hbox); have n4_ := AsZ.mk ((by rw [hg]; exact (zBl (by repeat (first | (with_reducible first | exact HB.out | apply aBl | apply pBd | apply dBl | refine sBl ?_ GE233.out) | exact HB.out))) : w.heap.size ≤ gb234)); have n5_ := AsZ.mk ((by rw [hg]; exact (zBl (by repeat (first | (with_reducible first | exact HB.out | apply aBl | apply pBd | apply dBl | refine sBl ?_ GE233.out) | exact HB.out))) : w.heap.size ≤ gb234)); have n6_ := AsZ.mk ((by rw [hg]; exact Nat.ne_of_lt (bLt (g := gb233) (o := .cells #[.int .i64 a1_0, .string a1_1, .int .i64 a1_2, .string a1_3, .slice A1_4 l1_4.length c1_4] 40 (0, 0)) (by (with_reducible repeat first | apply bDn | apply bDr | apply bAl); exact BK233.out)) : gb233 ≠ gb234)); have n7_ := AsZ.mk ((by rw [hg]; exact Nat.ne_of_gt (bLt (g := gb233) (o := .cells #[.int .i64 a1_0, .string a1_1, .int .i64 a1_2, .string a1_3, .slice A1_4 l1_4.length c1_4] 40 (0, 0)) (by (with_reducible repeat first | apply bDn | apply bDr | apply bAl); exact BK233.out)) : gb234 ≠ gb233)); clear HO1_4; clear BK233; clear HB; have HO1_4 := n0_; have BK233 := n1_; have HB := n2_; have BK234 := n3_; have GW234 := n4_; have GE234 := n5_; have NB233_234 := n6_; have NB234_233 := n7_; clear n0_ n1_ n2_ n3_ n4_ n5_ n6_ n7_; clear hb hbox hg; have hnb43 := NB233_234.out; have hnc43 := NB234_233.out; obtain ⟨hcz44_0, hcz44_1, hcz44_2, hcz44_3, hcz44_4⟩ := celN5 BK233.out; obtain ⟨hfz44_0, hfz44_1, hfz44_2, hfz44_3, hfz44_4⟩ := fzN5 BK233.out) | ((with_reducible refine gCa (f := 24) rfl ?_); refine gLl (some 39) rfl rfl Try.func24 (by kernel_rfl) rfl #[.string a1_3] rfl (by (try simp only [lsD, lsE, lsF]); first | done | rfl | (simp only [lsG, lsH]; rfl)) ?_; (with_reducible refine (r4Cont.calls k a1_3 true t241 t242 t243 t244 _ A37.out).mono ?_); rintro e w45 ⟨rfl, hb⟩; refine ⟨_, rfl, ?_⟩; have n0_ := AsZ.mk (Kd.V_below (by (with_reducible repeat (first | apply Kd.V_alloc | apply Kd.V_drewN | apply Kd.V_drew)); exact HO1_4.out) hb); have n1_ := AsZ.mk (bBl (g := gb233) (o := .cells #[.int .i64 a1_0, .string a1_1, .int .i64 a1_2, .string a1_3, .slice A1_4 l1_4.length c1_4] 40 (0, 0)) (by (with_reducible repeat first | apply bDn | apply bDr | apply bAl); exact BK233.out) hb); have n2_ := AsZ.mk (bBl (g := gb234) (o := .cells #[.int .i64 0, .string (⟨#[]⟩ : ByteArray), .int .i64 0, .string (⟨#[]⟩ : ByteArray), .slice none 0 0] 40 (0, 0)) (by (with_reducible repeat first | apply bDn | apply bDr | apply bAl); exact BK234.out) hb); have n3_ := AsZ.mk (tBl (by repeat (first | (with_reducible first | exact HB.out | apply aBl | apply pBd | apply dBl | refine sBl ?_ GE233.out | refine sBl ?_ GE234.out) | exact HB.out)) hb); clear HO1_4; clear BK233; clear BK234; clear HB; have HO1_4 := n0_; have BK233 := n1_; have BK234 := n2_; have HB := n3_; clear n0_ n1_ n2_ n3_; (try clear hb); (try clear hb2); (try clear hk); (try clear hi)) | ((with_reducible refine gDs (N := 5) rfl ?_); refine bEv ?hg (N := 5) ?hd (cs := #[.bool false, .int .i64 0, .int .i64 0, .int .i64 0]) (t := 59) ?hr ?_; (case hd => rfl); (case hg => rfl); (case hr => first | (go_simp; done) | (go_simp; rfl)); intro gb245 hg w46 hbox hb; have n0_ := AsZ.mk (Kd.V_below (Kd.V_elderB (by (with_reducible repeat (first | apply Kd.V_alloc | apply Kd.V_drewN | apply Kd.V_drew)); exact HO1_4.out) gb245 (Nat.le_of_eq hg.symm)) hb); have n1_ := AsZ.mk (bBl (g := gb233) (o := .cells #[.int .i64 a1_0, .string a1_1, .int .i64 a1_2, .string a1_3, .slice A1_4 l1_4.length c1_4] 40 (0, 0)) (by (with_reducible repeat first | apply bDn | apply bDr | apply bAl); exact BK233.out) hb); have n2_ := AsZ.mk (bBl (g := gb234) (o := .cells #[.int .i64 0, .string (⟨#[]⟩ : ByteArray), .int .i64 0, .string (⟨#[]⟩ : ByteArray), .slice none 0 0] 40 (0, 0)) (by (with_reducible repeat first | apply bDn | apply bDr | apply bAl); exact BK234.out) hb); have n3_ := AsZ.mk (tBl (by repeat (first | (with_reducible first | exact HB.out | apply aBl | apply pBd | apply dBl | refine sBl ?_ GE233.out | refine sBl ?_ GE234.out) | exact HB.out)) hb); have n4_ := AsZ.mk (hbox); have n5_ := AsZ.mk ((by rw [hg]; exact (zBl (by repeat (first | (with_reducible first | exact HB.out | apply aBl | apply pBd | apply dBl | refine sBl ?_ GE233.out | refine sBl ?_ GE234.out) | exact HB.out))) : w.heap.size ≤ gb245)); have n6_ := AsZ.mk ((by rw [hg]; exact (zBl (by repeat (first | (with_reducible first | exact HB.out | apply aBl | apply pBd | apply dBl | refine sBl ?_ GE233.out | refine sBl ?_ GE234.out) | exact HB.out))) : w.heap.size ≤ gb245)); have n7_ := AsZ.mk ((by rw [hg]; exact Nat.ne_of_lt (bLt (g := gb233) (o := .cells #[.int .i64 a1_0, .string a1_1, .int .i64 a1_2, .string a1_3, .slice A1_4 l1_4.length c1_4] 40 (0, 0)) (by (with_reducible repeat first | apply bDn | apply bDr | apply bAl); exact BK233.out)) : gb233 ≠ gb245)); have n8_ := AsZ.mk ((by rw [hg]; exact Nat.ne_of_gt (bLt (g := gb233) (o := .cells #[.int .i64 a1_0, .string a1_1, .int .i64 a1_2, .string a1_3, .slice A1_4 l1_4.length c1_4] 40 (0, 0)) (by (with_reducible repeat first | apply bDn | apply bDr | apply bAl); exact BK233.out)) : gb245 ≠ gb233)); have n9_ := AsZ.mk ((by rw [hg]; exact Nat.ne_of_lt (bLt (g := gb234) (o := .cells #[.int .i64 0, .string (⟨#[]⟩ : ByteArray), .int .i64 0, .string (⟨#[]⟩ : ByteArray), .slice none 0 0] 40 (0, 0)) (by (with_reducible repeat first | apply bDn | apply bDr | apply bAl); exact BK234.out)) : gb234 ≠ gb245)); have n10_ := AsZ.mk ((by rw [hg]; exact Nat.ne_of_gt (bLt (g := gb234) (o := .cells #[.int .i64 0, .string (⟨#[]⟩ : ByteArray), .int .i64 0, .string (⟨#[]⟩ : ByteArray), .slice none 0 0] 40 (0, 0)) (by (with_reducible repeat first | apply bDn | apply bDr | apply bAl); exact BK234.out)) : gb245 ≠ gb234)); clear HO1_4; clear BK233; clear BK234; clear HB; have HO1_4 := n0_; have BK233 := n1_; have BK234 := n2_; have HB := n3_; have BK245 := n4_; have GW245 := n5_; have GE245 := n6_; have NB233_245 := n7_; have NB245_233 := n8_; have NB234_245 := n9_; have NB245_234 := n10_; clear n0_ n1_ n2_ n3_ n4_ n5_ n6_ n7_ n8_ n9_ n10_; clear hb hbox hg; have hnb47 := NB245_233.out; have hnc47 := NB233_245.out; have hnb48 := NB245_234.out; have hnc48 := NB234_245.out; obtain ⟨hcz49_0, hcz49_1, hcz49_2, hcz49_3⟩ := celN4 BK245.out; obtain ⟨hfz49_0, hfz49_1, hfz49_2, hfz49_3⟩ := fzN4 BK245.out))
                obtain ⟨W9_, hW9_⟩ : ∃ W9_ : World, W9_ = ((((((w46.setCell ⟨gb245, 0, none⟩ (.bool true)).setCell ⟨gb245, 1, none⟩ (.int .i64 t241)).setCell ⟨gb245, 2, none⟩ (.int .i64 t242)).setCell ⟨gb245, 3, none⟩ (.int .i64 t243)).setCell ⟨gb245, 1, none⟩ (.int .i64 (wrap64 (t241 + 1)))).setCell ⟨gb245, 2, none⟩ (.int .i64 (wrap64 (t242 + 1)))) := ⟨_, rfl⟩
                have m0_ := AsZ.mk (Kd.V_mono (Kd.V_far (p := ⟨gb245, 2, none⟩) (Kd.V_far (p := ⟨gb245, 1, none⟩) (Kd.V_far (p := ⟨gb245, 3, none⟩) (Kd.V_far (p := ⟨gb245, 2, none⟩) (Kd.V_far (p := ⟨gb245, 1, none⟩) (Kd.V_far (p := ⟨gb245, 0, none⟩) (Kd.V_mono HO1_4.out (fun k_ hk => (⟨hk, hk.2⟩ : _ ∧ k_ ≠ gb245))) (fun _ hk => hk.2) (.bool true)) (fun _ hk => hk.2) (.int .i64 t241)) (fun _ hk => hk.2) (.int .i64 t242)) (fun _ hk => hk.2) (.int .i64 t243)) (fun _ hk => hk.2) (.int .i64 (wrap64 (t241 + 1)))) (fun _ hk => hk.2) (.int .i64 (wrap64 (t242 + 1)))) (fun _ h_ => h_.1))
                rw [← hW9_] at m0_
                have m1_ := AsZ.mk (show W9_.heap[gb233]? = some (.cells #[.int .i64 a1_0, .string a1_1, .int .i64 a1_2, .string a1_3, .slice A1_4 l1_4.length c1_4] 40 (0, 0)) from by rw [hW9_]; exact (by (with_reducible repeat first | apply bDn | apply bDr | apply bAl); refine bFr ?_ NB233_245.out _; (with_reducible repeat first | apply bDn | apply bDr | apply bAl); refine bFr ?_ NB233_245.out _; (with_reducible repeat first | apply bDn | apply bDr | apply bAl); refine bFr ?_ NB233_245.out _; (with_reducible repeat first | apply bDn | apply bDr | apply bAl); refine bFr ?_ NB233_245.out _; (with_reducible repeat first | apply bDn | apply bDr | apply bAl); refine bFr ?_ NB233_245.out _; (with_reducible repeat first | apply bDn | apply bDr | apply bAl); refine bFr ?_ NB233_245.out _; (with_reducible repeat first | apply bDn | apply bDr | apply bAl); exact BK233.out))
                have m2_ := AsZ.mk (show W9_.heap[gb234]? = some (.cells #[.int .i64 0, .string (⟨#[]⟩ : ByteArray), .int .i64 0, .string (⟨#[]⟩ : ByteArray), .slice none 0 0] 40 (0, 0)) from by rw [hW9_]; exact (by (with_reducible repeat first | apply bDn | apply bDr | apply bAl); refine bFr ?_ NB234_245.out _; (with_reducible repeat first | apply bDn | apply bDr | apply bAl); refine bFr ?_ NB234_245.out _; (with_reducible repeat first | apply bDn | apply bDr | apply bAl); refine bFr ?_ NB234_245.out _; (with_reducible repeat first | apply bDn | apply bDr | apply bAl); refine bFr ?_ NB234_245.out _; (with_reducible repeat first | apply bDn | apply bDr | apply bAl); refine bFr ?_ NB234_245.out _; (with_reducible repeat first | apply bDn | apply bDr | apply bAl); refine bFr ?_ NB234_245.out _; (with_reducible repeat first | apply bDn | apply bDr | apply bAl); exact BK234.out))
                have m3_ := AsZ.mk (show W9_.heap[gb245]? = some (.cells #[.bool true, .int .i64 (wrap64 (t241 + 1)), .int .i64 (wrap64 (t242 + 1)), .int .i64 t243] 59 (0, 0)) from by rw [hW9_]; exact (by (with_reducible repeat first | apply bDn | apply bDr | apply bAl); refine bPu (cs := #[.bool true, .int .i64 (wrap64 (t241 + 1)), .int .i64 t242, .int .i64 t243]) ?_ 2 _ rfl; (with_reducible repeat first | apply bDn | apply bDr | apply bAl); refine bPu (cs := #[.bool true, .int .i64 t241, .int .i64 t242, .int .i64 t243]) ?_ 1 _ rfl; (with_reducible repeat first | apply bDn | apply bDr | apply bAl); refine bPu (cs := #[.bool true, .int .i64 t241, .int .i64 t242, .int .i64 0]) ?_ 3 _ rfl; (with_reducible repeat first | apply bDn | apply bDr | apply bAl); refine bPu (cs := #[.bool true, .int .i64 t241, .int .i64 0, .int .i64 0]) ?_ 2 _ rfl; (with_reducible repeat first | apply bDn | apply bDr | apply bAl); refine bPu (cs := #[.bool true, .int .i64 0, .int .i64 0, .int .i64 0]) ?_ 1 _ rfl; (with_reducible repeat first | apply bDn | apply bDr | apply bAl); refine bPu (cs := #[.bool false, .int .i64 0, .int .i64 0, .int .i64 0]) ?_ 0 _ rfl; (with_reducible repeat first | apply bDn | apply bDr | apply bAl); exact BK245.out))
                have m4_ := AsZ.mk (show Below w.heap.size w W9_ from by rw [hW9_]; (repeat (first | (with_reducible first | exact HB.out | apply aBl | apply pBd | apply dBl | refine sBl ?_ GE233.out | refine sBl ?_ GE234.out | refine sBl ?_ GE245.out) | exact HB.out)))
                rw [← hW9_]
                clear hW9_
                clear HO1_4
                clear BK233
                clear BK234
                clear BK245
                clear HB
                have HO1_4 := m0_
                have BK233 := m1_
                have BK234 := m2_
                have BK245 := m3_
                have HB := m4_
                clear m0_ m1_ m2_ m3_ m4_
                have hqgb233_0 : W9_.cell? ⟨gb233, 0, none⟩ = some (.int .i64 a1_0) := (bCe BK233.out 0).trans rfl
                have hfgb233_0 := bFz BK233.out 0
                have hqgb233_1 : W9_.cell? ⟨gb233, 1, none⟩ = some (.string a1_1) := (bCe BK233.out 1).trans rfl
                have hfgb233_1 := bFz BK233.out 1
                have hqgb233_2 : W9_.cell? ⟨gb233, 2, none⟩ = some (.int .i64 a1_2) := (bCe BK233.out 2).trans rfl
                have hfgb233_2 := bFz BK233.out 2
                have hqgb233_3 : W9_.cell? ⟨gb233, 3, none⟩ = some (.string a1_3) := (bCe BK233.out 3).trans rfl
                have hfgb233_3 := bFz BK233.out 3
                have hqgb233_4 : W9_.cell? ⟨gb233, 4, none⟩ = some (.slice A1_4 l1_4.length c1_4) := (bCe BK233.out 4).trans rfl
                have hfgb233_4 := bFz BK233.out 4
                have hqgb234_0 : W9_.cell? ⟨gb234, 0, none⟩ = some (.int .i64 0) := (bCe BK234.out 0).trans rfl
                have hfgb234_0 := bFz BK234.out 0
                have hqgb234_1 : W9_.cell? ⟨gb234, 1, none⟩ = some (.string (⟨#[]⟩ : ByteArray)) := (bCe BK234.out 1).trans rfl
                have hfgb234_1 := bFz BK234.out 1
                have hqgb234_2 : W9_.cell? ⟨gb234, 2, none⟩ = some (.int .i64 0) := (bCe BK234.out 2).trans rfl
                have hfgb234_2 := bFz BK234.out 2
                have hqgb234_3 : W9_.cell? ⟨gb234, 3, none⟩ = some (.string (⟨#[]⟩ : ByteArray)) := (bCe BK234.out 3).trans rfl
                have hfgb234_3 := bFz BK234.out 3
                have hqgb234_4 : W9_.cell? ⟨gb234, 4, none⟩ = some (.slice none 0 0) := (bCe BK234.out 4).trans rfl
                have hfgb234_4 := bFz BK234.out 4
                have hqgb245_0 : W9_.cell? ⟨gb245, 0, none⟩ = some (.bool true) := (bCe BK245.out 0).trans rfl
                have hfgb245_0 := bFz BK245.out 0
                have hqgb245_1 : W9_.cell? ⟨gb245, 1, none⟩ = some (.int .i64 (wrap64 (t241 + 1))) := (bCe BK245.out 1).trans rfl
                have hfgb245_1 := bFz BK245.out 1
                have hqgb245_2 : W9_.cell? ⟨gb245, 2, none⟩ = some (.int .i64 (wrap64 (t242 + 1))) := (bCe BK245.out 2).trans rfl
                have hfgb245_2 := bFz BK245.out 2
                have hqgb245_3 : W9_.cell? ⟨gb245, 3, none⟩ = some (.int .i64 t243) := (bCe BK245.out 3).trans rfl
                have hfgb245_3 := bFz BK245.out 3
                go_wp2_with (first | ((with_reducible refine gCa (f := 22) rfl ?_); refine gLl (some 61) rfl rfl Try.func22 (by kernel_rfl) rfl #[.agg #[.bool true, .int .i64 (wrap64 (t241 + 1)), .int .i64 (wrap64 (t242 + 1)), .int .i64 t243]] rfl (by (try simp only [lsD, lsE, lsF]); first | done | rfl | (simp only [lsG, lsH]; rfl)) ?_; (with_reducible refine (r4PC.calls k true (wrap64 (t241 + 1)) (wrap64 (t242 + 1)) t243 t246 _ A40.out).mono ?_); rintro e w50 ⟨rfl, hb⟩; refine ⟨_, rfl, ?_⟩; have n0_ := AsZ.mk (Kd.V_below HO1_4.out hb); have n1_ := AsZ.mk (bBl (g := gb233) (o := .cells #[.int .i64 a1_0, .string a1_1, .int .i64 a1_2, .string a1_3, .slice A1_4 l1_4.length c1_4] 40 (0, 0)) BK233.out hb); have n2_ := AsZ.mk (bBl (g := gb234) (o := .cells #[.int .i64 0, .string (⟨#[]⟩ : ByteArray), .int .i64 0, .string (⟨#[]⟩ : ByteArray), .slice none 0 0] 40 (0, 0)) BK234.out hb); have n3_ := AsZ.mk (bBl (g := gb245) (o := .cells #[.bool true, .int .i64 (wrap64 (t241 + 1)), .int .i64 (wrap64 (t242 + 1)), .int .i64 t243] 59 (0, 0)) BK245.out hb); have n4_ := AsZ.mk (tBl HB.out hb); clear HO1_4; clear BK233; clear BK234; clear BK245; clear HB; have HO1_4 := n0_; have BK233 := n1_; have BK234 := n2_; have BK245 := n3_; have HB := n4_; clear n0_ n1_ n2_ n3_ n4_; (try clear hb); (try clear hb2); (try clear hk); (try clear hi); obtain ⟨hcz51_0, hcz51_1, hcz51_2, hcz51_3, hcz51_4⟩ := celN5 BK233.out; obtain ⟨hfz51_0, hfz51_1, hfz51_2, hfz51_3, hfz51_4⟩ := fzN5 BK233.out; obtain ⟨hcz52_0, hcz52_1, hcz52_2, hcz52_3, hcz52_4⟩ := celN5 BK234.out; obtain ⟨hfz52_0, hfz52_1, hfz52_2, hfz52_3, hfz52_4⟩ := fzN5 BK234.out))
                refine bodyPost_ret (results_cell_row rfl _ _ gb234 40 #[.int .i64 a1_0, .string a1_1, .int .i64 a1_2, .string t246, .slice A1_4 l1_4.length c1_4] (0, 0) _ rfl (by (with_reducible repeat first | apply bDn | apply bDr | apply bAl); refine bPu (cs := #[.int .i64 a1_0, .string a1_1, .int .i64 a1_2, .string t246, .slice none 0 0]) ?_ 4 _ rfl; (with_reducible repeat first | apply bDn | apply bDr | apply bAl); refine bPu (cs := #[.int .i64 a1_0, .string a1_1, .int .i64 a1_2, .string (⟨#[]⟩ : ByteArray), .slice none 0 0]) ?_ 3 _ rfl; (with_reducible repeat first | apply bDn | apply bDr | apply bAl); refine bPu (cs := #[.int .i64 a1_0, .string a1_1, .int .i64 0, .string (⟨#[]⟩ : ByteArray), .slice none 0 0]) ?_ 2 _ rfl; (with_reducible repeat first | apply bDn | apply bDr | apply bAl); refine bPu (cs := #[.int .i64 a1_0, .string (⟨#[]⟩ : ByteArray), .int .i64 0, .string (⟨#[]⟩ : ByteArray), .slice none 0 0]) ?_ 1 _ rfl; (with_reducible repeat first | apply bDn | apply bDr | apply bAl); refine bPu (cs := #[.int .i64 0, .string (⟨#[]⟩ : ByteArray), .int .i64 0, .string (⟨#[]⟩ : ByteArray), .slice none 0 0]) ?_ 0 _ rfl; (with_reducible repeat first | apply bDn | apply bDr | apply bAl); refine bFr ?_ NB234_233.out _; (with_reducible repeat first | apply bDn | apply bDr | apply bAl); exact BK234.out) Try.underlying40 rfl (by kernel_rfl)) rfl ?_
                exact ⟨_, by first | rfl | (simp [eWn, eWs] <;> rfl) | (simp [*, eWn, eWs] <;> rfl), by (with_reducible repeat (first | apply Kd.V_alloc | apply Kd.V_drewN | apply Kd.V_drew)); exact Kd.V_mono (Kd.V_far (p := ⟨gb234, 4, none⟩) (Kd.V_far (p := ⟨gb234, 3, none⟩) (Kd.V_far (p := ⟨gb234, 2, none⟩) (Kd.V_far (p := ⟨gb234, 1, none⟩) (Kd.V_far (p := ⟨gb234, 0, none⟩) (Kd.V_far (p := ⟨gb233, 3, none⟩) (Kd.V_mono (Kd.V_mono HO1_4.out (fun k_ hk => (⟨hk, hk.1.1.2⟩ : _ ∧ k_ ≠ gb233))) (fun k_ hk => (⟨hk, hk.1.1.2⟩ : _ ∧ k_ ≠ gb234))) (fun _ hk => hk.1.2) (.string t246)) (fun _ hk => hk.2) (.int .i64 a1_0)) (fun _ hk => hk.2) (.string a1_1)) (fun _ hk => hk.2) (.int .i64 a1_2)) (fun _ hk => hk.2) (.string t246)) (fun _ hk => hk.2) (.slice A1_4 l1_4.length c1_4)) (fun _ hk => hk.1.1.1.1.1), by repeat (first | (with_reducible first | exact HB.out | apply aBl | apply pBd | apply dBl | refine sBl ?_ GE233.out | refine sBl ?_ GE234.out | refine sBl ?_ GE245.out) | exact HB.out)⟩
              · replace c39 := Bool.eq_false_iff.mpr c39
                subst c39
                have H1 : (some (a1_0, a1_1, a1_2, a1_3, l1_4)) = some (r1, r2, r3, r4, r5) := by rw [if_neg (show ¬ (false = true) by decide)] at H; exact H
                clear H
                have H := H1
                clear H1
                simp only [Option.some.injEq, Prod.mk.injEq] at H
                obtain ⟨rfl, rfl, rfl, rfl, rfl⟩ := H
                go_enter Try.func10, Try.ntmps10
                go_wp2_with (first | ((with_reducible refine gDs (N := 3) rfl ?_); refine bEv ?hg (N := 3) ?hd (cs := #[.int .i64 a1_0, .string a1_1, .int .i64 a1_2, .string a1_3, .slice A1_4 l1_4.length c1_4]) (t := 40) ?hr ?_; (case hd => rfl); (case hg => rfl); (case hr => first | (go_simp; done) | (go_simp; rfl)); intro gb233 hg w53 hbox hb; have n0_ := AsZ.mk (Kd.V_below (Kd.V_elderB (by (with_reducible repeat (first | apply Kd.V_alloc | apply Kd.V_drewN | apply Kd.V_drew)); exact HO1_4.out) gb233 (Nat.le_of_eq hg.symm)) hb); have n1_ := AsZ.mk (tBl (by repeat (first | (with_reducible first | exact HB.out | apply aBl | apply pBd | apply dBl) | exact HB.out)) hb); have n2_ := AsZ.mk (hbox); have n3_ := AsZ.mk ((by rw [hg]; exact (zBl (by repeat (first | (with_reducible first | exact HB.out | apply aBl | apply pBd | apply dBl) | exact HB.out))) : w.heap.size ≤ gb233)); have n4_ := AsZ.mk ((by rw [hg]; exact (zBl (by repeat (first | (with_reducible first | exact HB.out | apply aBl | apply pBd | apply dBl) | exact HB.out))) : w.heap.size ≤ gb233)); clear HO1_4; clear HB; have HO1_4 := n0_; have HB := n1_; have BK233 := n2_; have GW233 := n3_; have GE233 := n4_; clear n0_ n1_ n2_ n3_ n4_; clear hb hbox hg) | ((with_reducible refine gDs (N := 4) rfl ?_); refine bEv ?hg (N := 4) ?hd (cs := #[.int .i64 0, .string (⟨#[]⟩ : ByteArray), .int .i64 0, .string (⟨#[]⟩ : ByteArray), .slice none 0 0]) (t := 40) ?hr ?_; (case hd => rfl); (case hg => rfl); (case hr => first | (go_simp; done) | (go_simp; rfl)); intro gb234 hg w54 hbox hb; have n0_ := AsZ.mk (Kd.V_below (Kd.V_elderB (by (with_reducible repeat (first | apply Kd.V_alloc | apply Kd.V_drewN | apply Kd.V_drew)); exact HO1_4.out) gb234 (Nat.le_of_eq hg.symm)) hb); have n1_ := AsZ.mk (bBl (g := gb233) (o := .cells #[.int .i64 a1_0, .string a1_1, .int .i64 a1_2, .string a1_3, .slice A1_4 l1_4.length c1_4] 40 (0, 0)) (by (with_reducible repeat first | apply bDn | apply bDr | apply bAl); exact BK233.out) hb); have n2_ := AsZ.mk (tBl (by repeat (first | (with_reducible first | exact HB.out | apply aBl | apply pBd | apply dBl | refine sBl ?_ GE233.out) | exact HB.out)) hb); have n3_ := AsZ.mk (hbox); have n4_ := AsZ.mk ((by rw [hg]; exact (zBl (by repeat (first | (with_reducible first | exact HB.out | apply aBl | apply pBd | apply dBl | refine sBl ?_ GE233.out) | exact HB.out))) : w.heap.size ≤ gb234)); have n5_ := AsZ.mk ((by rw [hg]; exact (zBl (by repeat (first | (with_reducible first | exact HB.out | apply aBl | apply pBd | apply dBl | refine sBl ?_ GE233.out) | exact HB.out))) : w.heap.size ≤ gb234)); have n6_ := AsZ.mk ((by rw [hg]; exact Nat.ne_of_lt (bLt (g := gb233) (o := .cells #[.int .i64 a1_0, .string a1_1, .int .i64 a1_2, .string a1_3, .slice A1_4 l1_4.length c1_4] 40 (0, 0)) (by (with_reducible repeat first | apply bDn | apply bDr | apply bAl); exact BK233.out)) : gb233 ≠ gb234)); have n7_ := AsZ.mk ((by rw [hg]; exact Nat.ne_of_gt (bLt (g := gb233) (o := .cells #[.int .i64 a1_0, .string a1_1, .int .i64 a1_2, .string a1_3, .slice A1_4 l1_4.length c1_4] 40 (0, 0)) (by (with_reducible repeat first | apply bDn | apply bDr | apply bAl); exact BK233.out)) : gb234 ≠ gb233)); clear HO1_4; clear BK233; clear HB; have HO1_4 := n0_; have BK233 := n1_; have HB := n2_; have BK234 := n3_; have GW234 := n4_; have GE234 := n5_; have NB233_234 := n6_; have NB234_233 := n7_; clear n0_ n1_ n2_ n3_ n4_ n5_ n6_ n7_; clear hb hbox hg; have hnb55 := NB233_234.out; have hnc55 := NB234_233.out; obtain ⟨hcz56_0, hcz56_1, hcz56_2, hcz56_3, hcz56_4⟩ := celN5 BK233.out; obtain ⟨hfz56_0, hfz56_1, hfz56_2, hfz56_3, hfz56_4⟩ := fzN5 BK233.out) | ((with_reducible refine gCa (f := 24) rfl ?_); refine gLl (some 39) rfl rfl Try.func24 (by kernel_rfl) rfl #[.string a1_3] rfl (by (try simp only [lsD, lsE, lsF]); first | done | rfl | (simp only [lsG, lsH]; rfl)) ?_; (with_reducible refine (r4Cont.calls k a1_3 false t241 t242 t243 t244 _ A37.out).mono ?_); rintro e w57 ⟨rfl, hb⟩; refine ⟨_, rfl, ?_⟩; have n0_ := AsZ.mk (Kd.V_below (by (with_reducible repeat (first | apply Kd.V_alloc | apply Kd.V_drewN | apply Kd.V_drew)); exact HO1_4.out) hb); have n1_ := AsZ.mk (bBl (g := gb233) (o := .cells #[.int .i64 a1_0, .string a1_1, .int .i64 a1_2, .string a1_3, .slice A1_4 l1_4.length c1_4] 40 (0, 0)) (by (with_reducible repeat first | apply bDn | apply bDr | apply bAl); exact BK233.out) hb); have n2_ := AsZ.mk (bBl (g := gb234) (o := .cells #[.int .i64 0, .string (⟨#[]⟩ : ByteArray), .int .i64 0, .string (⟨#[]⟩ : ByteArray), .slice none 0 0] 40 (0, 0)) (by (with_reducible repeat first | apply bDn | apply bDr | apply bAl); exact BK234.out) hb); have n3_ := AsZ.mk (tBl (by repeat (first | (with_reducible first | exact HB.out | apply aBl | apply pBd | apply dBl | refine sBl ?_ GE233.out | refine sBl ?_ GE234.out) | exact HB.out)) hb); clear HO1_4; clear BK233; clear BK234; clear HB; have HO1_4 := n0_; have BK233 := n1_; have BK234 := n2_; have HB := n3_; clear n0_ n1_ n2_ n3_; (try clear hb); (try clear hb2); (try clear hk); (try clear hi)) | ((with_reducible refine gDs (N := 5) rfl ?_); refine bEv ?hg (N := 5) ?hd (cs := #[.bool false, .int .i64 0, .int .i64 0, .int .i64 0]) (t := 59) ?hr ?_; (case hd => rfl); (case hg => rfl); (case hr => first | (go_simp; done) | (go_simp; rfl)); intro gb245 hg w58 hbox hb; have n0_ := AsZ.mk (Kd.V_below (Kd.V_elderB (by (with_reducible repeat (first | apply Kd.V_alloc | apply Kd.V_drewN | apply Kd.V_drew)); exact HO1_4.out) gb245 (Nat.le_of_eq hg.symm)) hb); have n1_ := AsZ.mk (bBl (g := gb233) (o := .cells #[.int .i64 a1_0, .string a1_1, .int .i64 a1_2, .string a1_3, .slice A1_4 l1_4.length c1_4] 40 (0, 0)) (by (with_reducible repeat first | apply bDn | apply bDr | apply bAl); exact BK233.out) hb); have n2_ := AsZ.mk (bBl (g := gb234) (o := .cells #[.int .i64 0, .string (⟨#[]⟩ : ByteArray), .int .i64 0, .string (⟨#[]⟩ : ByteArray), .slice none 0 0] 40 (0, 0)) (by (with_reducible repeat first | apply bDn | apply bDr | apply bAl); exact BK234.out) hb); have n3_ := AsZ.mk (tBl (by repeat (first | (with_reducible first | exact HB.out | apply aBl | apply pBd | apply dBl | refine sBl ?_ GE233.out | refine sBl ?_ GE234.out) | exact HB.out)) hb); have n4_ := AsZ.mk (hbox); have n5_ := AsZ.mk ((by rw [hg]; exact (zBl (by repeat (first | (with_reducible first | exact HB.out | apply aBl | apply pBd | apply dBl | refine sBl ?_ GE233.out | refine sBl ?_ GE234.out) | exact HB.out))) : w.heap.size ≤ gb245)); have n6_ := AsZ.mk ((by rw [hg]; exact (zBl (by repeat (first | (with_reducible first | exact HB.out | apply aBl | apply pBd | apply dBl | refine sBl ?_ GE233.out | refine sBl ?_ GE234.out) | exact HB.out))) : w.heap.size ≤ gb245)); have n7_ := AsZ.mk ((by rw [hg]; exact Nat.ne_of_lt (bLt (g := gb233) (o := .cells #[.int .i64 a1_0, .string a1_1, .int .i64 a1_2, .string a1_3, .slice A1_4 l1_4.length c1_4] 40 (0, 0)) (by (with_reducible repeat first | apply bDn | apply bDr | apply bAl); exact BK233.out)) : gb233 ≠ gb245)); have n8_ := AsZ.mk ((by rw [hg]; exact Nat.ne_of_gt (bLt (g := gb233) (o := .cells #[.int .i64 a1_0, .string a1_1, .int .i64 a1_2, .string a1_3, .slice A1_4 l1_4.length c1_4] 40 (0, 0)) (by (with_reducible repeat first | apply bDn | apply bDr | apply bAl); exact BK233.out)) : gb245 ≠ gb233)); have n9_ := AsZ.mk ((by rw [hg]; exact Nat.ne_of_lt (bLt (g := gb234) (o := .cells #[.int .i64 0, .string (⟨#[]⟩ : ByteArray), .int .i64 0, .string (⟨#[]⟩ : ByteArray), .slice none 0 0] 40 (0, 0)) (by (with_reducible repeat first | apply bDn | apply bDr | apply bAl); exact BK234.out)) : gb234 ≠ gb245)); have n10_ := AsZ.mk ((by rw [hg]; exact Nat.ne_of_gt (bLt (g := gb234) (o := .cells #[.int .i64 0, .string (⟨#[]⟩ : ByteArray), .int .i64 0, .string (⟨#[]⟩ : ByteArray), .slice none 0 0] 40 (0, 0)) (by (with_reducible repeat first | apply bDn | apply bDr | apply bAl); exact BK234.out)) : gb245 ≠ gb234)); clear HO1_4; clear BK233; clear BK234; clear HB; have HO1_4 := n0_; have BK233 := n1_; have BK234 := n2_; have HB := n3_; have BK245 := n4_; have GW245 := n5_; have GE245 := n6_; have NB233_245 := n7_; have NB245_233 := n8_; have NB234_245 := n9_; have NB245_234 := n10_; clear n0_ n1_ n2_ n3_ n4_ n5_ n6_ n7_ n8_ n9_ n10_; clear hb hbox hg; have hnb59 := NB245_233.out; have hnc59 := NB233_245.out; have hnb60 := NB245_234.out; have hnc60 := NB234_245.out; obtain ⟨hcz61_0, hcz61_1, hcz61_2, hcz61_3⟩ := celN4 BK245.out; obtain ⟨hfz61_0, hfz61_1, hfz61_2, hfz61_3⟩ := fzN4 BK245.out; obtain ⟨hcz62_0, hcz62_1, hcz62_2, hcz62_3, hcz62_4⟩ := celN5 BK233.out; obtain ⟨hfz62_0, hfz62_1, hfz62_2, hfz62_3, hfz62_4⟩ := fzN5 BK233.out; obtain ⟨hcz63_0, hcz63_1, hcz63_2, hcz63_3, hcz63_4⟩ := celN5 BK234.out; obtain ⟨hfz63_0, hfz63_1, hfz63_2, hfz63_3, hfz63_4⟩ := fzN5 BK234.out))
                refine bodyPost_ret (results_cell_row rfl _ _ gb234 40 #[.int .i64 a1_0, .string a1_1, .int .i64 a1_2, .string a1_3, .slice A1_4 l1_4.length c1_4] (0, 0) _ rfl (by (with_reducible repeat first | apply bDn | apply bDr | apply bAl); refine bPu (cs := #[.int .i64 a1_0, .string a1_1, .int .i64 a1_2, .string a1_3, .slice none 0 0]) ?_ 4 _ rfl; (with_reducible repeat first | apply bDn | apply bDr | apply bAl); refine bPu (cs := #[.int .i64 a1_0, .string a1_1, .int .i64 a1_2, .string (⟨#[]⟩ : ByteArray), .slice none 0 0]) ?_ 3 _ rfl; (with_reducible repeat first | apply bDn | apply bDr | apply bAl); refine bPu (cs := #[.int .i64 a1_0, .string a1_1, .int .i64 0, .string (⟨#[]⟩ : ByteArray), .slice none 0 0]) ?_ 2 _ rfl; (with_reducible repeat first | apply bDn | apply bDr | apply bAl); refine bPu (cs := #[.int .i64 a1_0, .string (⟨#[]⟩ : ByteArray), .int .i64 0, .string (⟨#[]⟩ : ByteArray), .slice none 0 0]) ?_ 1 _ rfl; (with_reducible repeat first | apply bDn | apply bDr | apply bAl); refine bPu (cs := #[.int .i64 0, .string (⟨#[]⟩ : ByteArray), .int .i64 0, .string (⟨#[]⟩ : ByteArray), .slice none 0 0]) ?_ 0 _ rfl; (with_reducible repeat first | apply bDn | apply bDr | apply bAl); refine bFr ?_ NB234_245.out _; (with_reducible repeat first | apply bDn | apply bDr | apply bAl); refine bFr ?_ NB234_245.out _; (with_reducible repeat first | apply bDn | apply bDr | apply bAl); refine bFr ?_ NB234_245.out _; (with_reducible repeat first | apply bDn | apply bDr | apply bAl); refine bFr ?_ NB234_245.out _; (with_reducible repeat first | apply bDn | apply bDr | apply bAl); exact BK234.out) Try.underlying40 rfl (by kernel_rfl)) rfl ?_
                exact ⟨_, by first | rfl | (simp [eWn, eWs] <;> rfl) | (simp [*, eWn, eWs] <;> rfl), by (with_reducible repeat (first | apply Kd.V_alloc | apply Kd.V_drewN | apply Kd.V_drew)); exact Kd.V_mono (Kd.V_far (p := ⟨gb234, 4, none⟩) (Kd.V_far (p := ⟨gb234, 3, none⟩) (Kd.V_far (p := ⟨gb234, 2, none⟩) (Kd.V_far (p := ⟨gb234, 1, none⟩) (Kd.V_far (p := ⟨gb234, 0, none⟩) (Kd.V_far (p := ⟨gb245, 3, none⟩) (Kd.V_far (p := ⟨gb245, 2, none⟩) (Kd.V_far (p := ⟨gb245, 1, none⟩) (Kd.V_far (p := ⟨gb245, 0, none⟩) (Kd.V_mono (Kd.V_mono HO1_4.out (fun k_ hk => (⟨hk, hk.2⟩ : _ ∧ k_ ≠ gb245))) (fun k_ hk => (⟨hk, hk.1.1.2⟩ : _ ∧ k_ ≠ gb234))) (fun _ hk => hk.1.2) (.bool false)) (fun _ hk => hk.1.2) (.int .i64 t241)) (fun _ hk => hk.1.2) (.int .i64 t242)) (fun _ hk => hk.1.2) (.int .i64 t243)) (fun _ hk => hk.2) (.int .i64 a1_0)) (fun _ hk => hk.2) (.string a1_1)) (fun _ hk => hk.2) (.int .i64 a1_2)) (fun _ hk => hk.2) (.string a1_3)) (fun _ hk => hk.2) (.slice A1_4 l1_4.length c1_4)) (fun _ hk => hk.1.1.1.1.1), by repeat (first | (with_reducible first | exact HB.out | apply aBl | apply pBd | apply dBl | refine sBl ?_ GE233.out | refine sBl ?_ GE234.out | refine sBl ?_ GE245.out) | exact HB.out)⟩
            · rw [if_neg c38] at H
              have c38b0 : (t244 == 0) = false := beq_eq_false_iff_ne.mpr c38
              have c38b1 : (t244 != 0) = true := bne_iff_ne.mpr c38
              simp only [Option.some.injEq, Prod.mk.injEq] at H
              obtain ⟨rfl, rfl, rfl, rfl, rfl⟩ := H
              go_enter Try.func10, Try.ntmps10
              go_wp2_with (first | ((with_reducible refine gDs (N := 3) rfl ?_); refine bEv ?hg (N := 3) ?hd (cs := #[.int .i64 a1_0, .string a1_1, .int .i64 a1_2, .string a1_3, .slice A1_4 l1_4.length c1_4]) (t := 40) ?hr ?_; (case hd => rfl); (case hg => rfl); (case hr => first | (go_simp; done) | (go_simp; rfl)); intro gb233 hg w64 hbox hb; have n0_ := AsZ.mk (Kd.V_below (Kd.V_elderB (by (with_reducible repeat (first | apply Kd.V_alloc | apply Kd.V_drewN | apply Kd.V_drew)); exact HO1_4.out) gb233 (Nat.le_of_eq hg.symm)) hb); have n1_ := AsZ.mk (tBl (by repeat (first | (with_reducible first | exact HB.out | apply aBl | apply pBd | apply dBl) | exact HB.out)) hb); have n2_ := AsZ.mk (hbox); have n3_ := AsZ.mk ((by rw [hg]; exact (zBl (by repeat (first | (with_reducible first | exact HB.out | apply aBl | apply pBd | apply dBl) | exact HB.out))) : w.heap.size ≤ gb233)); have n4_ := AsZ.mk ((by rw [hg]; exact (zBl (by repeat (first | (with_reducible first | exact HB.out | apply aBl | apply pBd | apply dBl) | exact HB.out))) : w.heap.size ≤ gb233)); clear HO1_4; clear HB; have HO1_4 := n0_; have HB := n1_; have BK233 := n2_; have GW233 := n3_; have GE233 := n4_; clear n0_ n1_ n2_ n3_ n4_; clear hb hbox hg) | ((with_reducible refine gDs (N := 4) rfl ?_); refine bEv ?hg (N := 4) ?hd (cs := #[.int .i64 0, .string (⟨#[]⟩ : ByteArray), .int .i64 0, .string (⟨#[]⟩ : ByteArray), .slice none 0 0]) (t := 40) ?hr ?_; (case hd => rfl); (case hg => rfl); (case hr => first | (go_simp; done) | (go_simp; rfl)); intro gb234 hg w65 hbox hb; have n0_ := AsZ.mk (Kd.V_below (Kd.V_elderB (by (with_reducible repeat (first | apply Kd.V_alloc | apply Kd.V_drewN | apply Kd.V_drew)); exact HO1_4.out) gb234 (Nat.le_of_eq hg.symm)) hb); have n1_ := AsZ.mk (bBl (g := gb233) (o := .cells #[.int .i64 a1_0, .string a1_1, .int .i64 a1_2, .string a1_3, .slice A1_4 l1_4.length c1_4] 40 (0, 0)) (by (with_reducible repeat first | apply bDn | apply bDr | apply bAl); exact BK233.out) hb); have n2_ := AsZ.mk (tBl (by repeat (first | (with_reducible first | exact HB.out | apply aBl | apply pBd | apply dBl | refine sBl ?_ GE233.out) | exact HB.out)) hb); have n3_ := AsZ.mk (hbox); have n4_ := AsZ.mk ((by rw [hg]; exact (zBl (by repeat (first | (with_reducible first | exact HB.out | apply aBl | apply pBd | apply dBl | refine sBl ?_ GE233.out) | exact HB.out))) : w.heap.size ≤ gb234)); have n5_ := AsZ.mk ((by rw [hg]; exact (zBl (by repeat (first | (with_reducible first | exact HB.out | apply aBl | apply pBd | apply dBl | refine sBl ?_ GE233.out) | exact HB.out))) : w.heap.size ≤ gb234)); have n6_ := AsZ.mk ((by rw [hg]; exact Nat.ne_of_lt (bLt (g := gb233) (o := .cells #[.int .i64 a1_0, .string a1_1, .int .i64 a1_2, .string a1_3, .slice A1_4 l1_4.length c1_4] 40 (0, 0)) (by (with_reducible repeat first | apply bDn | apply bDr | apply bAl); exact BK233.out)) : gb233 ≠ gb234)); have n7_ := AsZ.mk ((by rw [hg]; exact Nat.ne_of_gt (bLt (g := gb233) (o := .cells #[.int .i64 a1_0, .string a1_1, .int .i64 a1_2, .string a1_3, .slice A1_4 l1_4.length c1_4] 40 (0, 0)) (by (with_reducible repeat first | apply bDn | apply bDr | apply bAl); exact BK233.out)) : gb234 ≠ gb233)); clear HO1_4; clear BK233; clear HB; have HO1_4 := n0_; have BK233 := n1_; have HB := n2_; have BK234 := n3_; have GW234 := n4_; have GE234 := n5_; have NB233_234 := n6_; have NB234_233 := n7_; clear n0_ n1_ n2_ n3_ n4_ n5_ n6_ n7_; clear hb hbox hg; have hnb66 := NB233_234.out; have hnc66 := NB234_233.out; obtain ⟨hcz67_0, hcz67_1, hcz67_2, hcz67_3, hcz67_4⟩ := celN5 BK233.out; obtain ⟨hfz67_0, hfz67_1, hfz67_2, hfz67_3, hfz67_4⟩ := fzN5 BK233.out) | ((with_reducible refine gCa (f := 24) rfl ?_); refine gLl (some 39) rfl rfl Try.func24 (by kernel_rfl) rfl #[.string a1_3] rfl (by (try simp only [lsD, lsE, lsF]); first | done | rfl | (simp only [lsG, lsH]; rfl)) ?_; (with_reducible refine (r4Cont.calls k a1_3 t240 t241 t242 t243 t244 _ A37.out).mono ?_); rintro e w68 ⟨rfl, hb⟩; refine ⟨_, rfl, ?_⟩; have n0_ := AsZ.mk (Kd.V_below (by (with_reducible repeat (first | apply Kd.V_alloc | apply Kd.V_drewN | apply Kd.V_drew)); exact HO1_4.out) hb); have n1_ := AsZ.mk (bBl (g := gb233) (o := .cells #[.int .i64 a1_0, .string a1_1, .int .i64 a1_2, .string a1_3, .slice A1_4 l1_4.length c1_4] 40 (0, 0)) (by (with_reducible repeat first | apply bDn | apply bDr | apply bAl); exact BK233.out) hb); have n2_ := AsZ.mk (bBl (g := gb234) (o := .cells #[.int .i64 0, .string (⟨#[]⟩ : ByteArray), .int .i64 0, .string (⟨#[]⟩ : ByteArray), .slice none 0 0] 40 (0, 0)) (by (with_reducible repeat first | apply bDn | apply bDr | apply bAl); exact BK234.out) hb); have n3_ := AsZ.mk (tBl (by repeat (first | (with_reducible first | exact HB.out | apply aBl | apply pBd | apply dBl | refine sBl ?_ GE233.out | refine sBl ?_ GE234.out) | exact HB.out)) hb); clear HO1_4; clear BK233; clear BK234; clear HB; have HO1_4 := n0_; have BK233 := n1_; have BK234 := n2_; have HB := n3_; clear n0_ n1_ n2_ n3_; (try clear hb); (try clear hb2); (try clear hk); (try clear hi)) | ((with_reducible refine gDs (N := 5) rfl ?_); refine bEv ?hg (N := 5) ?hd (cs := #[.bool false, .int .i64 0, .int .i64 0, .int .i64 0]) (t := 59) ?hr ?_; (case hd => rfl); (case hg => rfl); (case hr => first | (go_simp; done) | (go_simp; rfl)); intro gb245 hg w69 hbox hb; have n0_ := AsZ.mk (Kd.V_below (Kd.V_elderB (by (with_reducible repeat (first | apply Kd.V_alloc | apply Kd.V_drewN | apply Kd.V_drew)); exact HO1_4.out) gb245 (Nat.le_of_eq hg.symm)) hb); have n1_ := AsZ.mk (bBl (g := gb233) (o := .cells #[.int .i64 a1_0, .string a1_1, .int .i64 a1_2, .string a1_3, .slice A1_4 l1_4.length c1_4] 40 (0, 0)) (by (with_reducible repeat first | apply bDn | apply bDr | apply bAl); exact BK233.out) hb); have n2_ := AsZ.mk (bBl (g := gb234) (o := .cells #[.int .i64 0, .string (⟨#[]⟩ : ByteArray), .int .i64 0, .string (⟨#[]⟩ : ByteArray), .slice none 0 0] 40 (0, 0)) (by (with_reducible repeat first | apply bDn | apply bDr | apply bAl); exact BK234.out) hb); have n3_ := AsZ.mk (tBl (by repeat (first | (with_reducible first | exact HB.out | apply aBl | apply pBd | apply dBl | refine sBl ?_ GE233.out | refine sBl ?_ GE234.out) | exact HB.out)) hb); have n4_ := AsZ.mk (hbox); have n5_ := AsZ.mk ((by rw [hg]; exact (zBl (by repeat (first | (with_reducible first | exact HB.out | apply aBl | apply pBd | apply dBl | refine sBl ?_ GE233.out | refine sBl ?_ GE234.out) | exact HB.out))) : w.heap.size ≤ gb245)); have n6_ := AsZ.mk ((by rw [hg]; exact (zBl (by repeat (first | (with_reducible first | exact HB.out | apply aBl | apply pBd | apply dBl | refine sBl ?_ GE233.out | refine sBl ?_ GE234.out) | exact HB.out))) : w.heap.size ≤ gb245)); have n7_ := AsZ.mk ((by rw [hg]; exact Nat.ne_of_lt (bLt (g := gb233) (o := .cells #[.int .i64 a1_0, .string a1_1, .int .i64 a1_2, .string a1_3, .slice A1_4 l1_4.length c1_4] 40 (0, 0)) (by (with_reducible repeat first | apply bDn | apply bDr | apply bAl); exact BK233.out)) : gb233 ≠ gb245)); have n8_ := AsZ.mk ((by rw [hg]; exact Nat.ne_of_gt (bLt (g := gb233) (o := .cells #[.int .i64 a1_0, .string a1_1, .int .i64 a1_2, .string a1_3, .slice A1_4 l1_4.length c1_4] 40 (0, 0)) (by (with_reducible repeat first | apply bDn | apply bDr | apply bAl); exact BK233.out)) : gb245 ≠ gb233)); have n9_ := AsZ.mk ((by rw [hg]; exact Nat.ne_of_lt (bLt (g := gb234) (o := .cells #[.int .i64 0, .string (⟨#[]⟩ : ByteArray), .int .i64 0, .string (⟨#[]⟩ : ByteArray), .slice none 0 0] 40 (0, 0)) (by (with_reducible repeat first | apply bDn | apply bDr | apply bAl); exact BK234.out)) : gb234 ≠ gb245)); have n10_ := AsZ.mk ((by rw [hg]; exact Nat.ne_of_gt (bLt (g := gb234) (o := .cells #[.int .i64 0, .string (⟨#[]⟩ : ByteArray), .int .i64 0, .string (⟨#[]⟩ : ByteArray), .slice none 0 0] 40 (0, 0)) (by (with_reducible repeat first | apply bDn | apply bDr | apply bAl); exact BK234.out)) : gb245 ≠ gb234)); clear HO1_4; clear BK233; clear BK234; clear HB; have HO1_4 := n0_; have BK233 := n1_; have BK234 := n2_; have HB := n3_; have BK245 := n4_; have GW245 := n5_; have GE245 := n6_; have NB233_245 := n7_; have NB245_233 := n8_; have NB234_245 := n9_; have NB245_234 := n10_; clear n0_ n1_ n2_ n3_ n4_ n5_ n6_ n7_ n8_ n9_ n10_; clear hb hbox hg; have hnb70 := NB245_233.out; have hnc70 := NB233_245.out; have hnb71 := NB245_234.out; have hnc71 := NB234_245.out; obtain ⟨hcz72_0, hcz72_1, hcz72_2, hcz72_3⟩ := celN4 BK245.out; obtain ⟨hfz72_0, hfz72_1, hfz72_2, hfz72_3⟩ := fzN4 BK245.out; obtain ⟨hcz73_0, hcz73_1, hcz73_2, hcz73_3, hcz73_4⟩ := celN5 BK233.out; obtain ⟨hfz73_0, hfz73_1, hfz73_2, hfz73_3, hfz73_4⟩ := fzN5 BK233.out; obtain ⟨hcz74_0, hcz74_1, hcz74_2, hcz74_3, hcz74_4⟩ := celN5 BK234.out; obtain ⟨hfz74_0, hfz74_1, hfz74_2, hfz74_3, hfz74_4⟩ := fzN5 BK234.out))
              refine bodyPost_ret (results_cell_row rfl _ _ gb234 40 #[.int .i64 a1_0, .string a1_1, .int .i64 a1_2, .string a1_3, .slice A1_4 l1_4.length c1_4] (0, 0) _ rfl (by (with_reducible repeat first | apply bDn | apply bDr | apply bAl); refine bPu (cs := #[.int .i64 a1_0, .string a1_1, .int .i64 a1_2, .string a1_3, .slice none 0 0]) ?_ 4 _ rfl; (with_reducible repeat first | apply bDn | apply bDr | apply bAl); refine bPu (cs := #[.int .i64 a1_0, .string a1_1, .int .i64 a1_2, .string (⟨#[]⟩ : ByteArray), .slice none 0 0]) ?_ 3 _ rfl; (with_reducible repeat first | apply bDn | apply bDr | apply bAl); refine bPu (cs := #[.int .i64 a1_0, .string a1_1, .int .i64 0, .string (⟨#[]⟩ : ByteArray), .slice none 0 0]) ?_ 2 _ rfl; (with_reducible repeat first | apply bDn | apply bDr | apply bAl); refine bPu (cs := #[.int .i64 a1_0, .string (⟨#[]⟩ : ByteArray), .int .i64 0, .string (⟨#[]⟩ : ByteArray), .slice none 0 0]) ?_ 1 _ rfl; (with_reducible repeat first | apply bDn | apply bDr | apply bAl); refine bPu (cs := #[.int .i64 0, .string (⟨#[]⟩ : ByteArray), .int .i64 0, .string (⟨#[]⟩ : ByteArray), .slice none 0 0]) ?_ 0 _ rfl; (with_reducible repeat first | apply bDn | apply bDr | apply bAl); refine bFr ?_ NB234_245.out _; (with_reducible repeat first | apply bDn | apply bDr | apply bAl); refine bFr ?_ NB234_245.out _; (with_reducible repeat first | apply bDn | apply bDr | apply bAl); refine bFr ?_ NB234_245.out _; (with_reducible repeat first | apply bDn | apply bDr | apply bAl); refine bFr ?_ NB234_245.out _; (with_reducible repeat first | apply bDn | apply bDr | apply bAl); exact BK234.out) Try.underlying40 rfl (by kernel_rfl)) rfl ?_
              exact ⟨_, by first | rfl | (simp [eWn, eWs] <;> rfl) | (simp [*, eWn, eWs] <;> rfl), by (with_reducible repeat (first | apply Kd.V_alloc | apply Kd.V_drewN | apply Kd.V_drew)); exact Kd.V_mono (Kd.V_far (p := ⟨gb234, 4, none⟩) (Kd.V_far (p := ⟨gb234, 3, none⟩) (Kd.V_far (p := ⟨gb234, 2, none⟩) (Kd.V_far (p := ⟨gb234, 1, none⟩) (Kd.V_far (p := ⟨gb234, 0, none⟩) (Kd.V_far (p := ⟨gb245, 3, none⟩) (Kd.V_far (p := ⟨gb245, 2, none⟩) (Kd.V_far (p := ⟨gb245, 1, none⟩) (Kd.V_far (p := ⟨gb245, 0, none⟩) (Kd.V_mono (Kd.V_mono HO1_4.out (fun k_ hk => (⟨hk, hk.2⟩ : _ ∧ k_ ≠ gb245))) (fun k_ hk => (⟨hk, hk.1.1.2⟩ : _ ∧ k_ ≠ gb234))) (fun _ hk => hk.1.2) (.bool t240)) (fun _ hk => hk.1.2) (.int .i64 t241)) (fun _ hk => hk.1.2) (.int .i64 t242)) (fun _ hk => hk.1.2) (.int .i64 t243)) (fun _ hk => hk.2) (.int .i64 a1_0)) (fun _ hk => hk.2) (.string a1_1)) (fun _ hk => hk.2) (.int .i64 a1_2)) (fun _ hk => hk.2) (.string a1_3)) (fun _ hk => hk.2) (.slice A1_4 l1_4.length c1_4)) (fun _ hk => hk.1.1.1.1.1), by repeat (first | (with_reducible first | exact HB.out | apply aBl | apply pBd | apply dBl | refine sBl ?_ GE233.out | refine sBl ?_ GE234.out | refine sBl ?_ GE245.out) | exact HB.out)⟩
          · rw [if_neg c36] at H
            have c36b0 : (a0 == 3) = false := beq_eq_false_iff_ne.mpr c36
            have c36b1 : (a0 != 3) = true := bne_iff_ne.mpr c36
            simp only [Option.some.injEq, Prod.mk.injEq] at H
            obtain ⟨rfl, rfl, rfl, rfl, rfl⟩ := H
            go_enter Try.func10, Try.ntmps10
            go_wp2_with (first | ((with_reducible refine gDs (N := 3) rfl ?_); refine bEv ?hg (N := 3) ?hd (cs := #[.int .i64 a1_0, .string a1_1, .int .i64 a1_2, .string a1_3, .slice A1_4 l1_4.length c1_4]) (t := 40) ?hr ?_; (case hd => rfl); (case hg => rfl); (case hr => first | (go_simp; done) | (go_simp; rfl)); intro gb233 hg w75 hbox hb; have n0_ := AsZ.mk (Kd.V_below (Kd.V_elderB (by (with_reducible repeat (first | apply Kd.V_alloc | apply Kd.V_drewN | apply Kd.V_drew)); exact HO1_4.out) gb233 (Nat.le_of_eq hg.symm)) hb); have n1_ := AsZ.mk (tBl (by repeat (first | (with_reducible first | exact HB.out | apply aBl | apply pBd | apply dBl) | exact HB.out)) hb); have n2_ := AsZ.mk (hbox); have n3_ := AsZ.mk ((by rw [hg]; exact (zBl (by repeat (first | (with_reducible first | exact HB.out | apply aBl | apply pBd | apply dBl) | exact HB.out))) : w.heap.size ≤ gb233)); have n4_ := AsZ.mk ((by rw [hg]; exact (zBl (by repeat (first | (with_reducible first | exact HB.out | apply aBl | apply pBd | apply dBl) | exact HB.out))) : w.heap.size ≤ gb233)); clear HO1_4; clear HB; have HO1_4 := n0_; have HB := n1_; have BK233 := n2_; have GW233 := n3_; have GE233 := n4_; clear n0_ n1_ n2_ n3_ n4_; clear hb hbox hg) | ((with_reducible refine gDs (N := 4) rfl ?_); refine bEv ?hg (N := 4) ?hd (cs := #[.int .i64 0, .string (⟨#[]⟩ : ByteArray), .int .i64 0, .string (⟨#[]⟩ : ByteArray), .slice none 0 0]) (t := 40) ?hr ?_; (case hd => rfl); (case hg => rfl); (case hr => first | (go_simp; done) | (go_simp; rfl)); intro gb234 hg w76 hbox hb; have n0_ := AsZ.mk (Kd.V_below (Kd.V_elderB (by (with_reducible repeat (first | apply Kd.V_alloc | apply Kd.V_drewN | apply Kd.V_drew)); exact HO1_4.out) gb234 (Nat.le_of_eq hg.symm)) hb); have n1_ := AsZ.mk (bBl (g := gb233) (o := .cells #[.int .i64 a1_0, .string a1_1, .int .i64 a1_2, .string a1_3, .slice A1_4 l1_4.length c1_4] 40 (0, 0)) (by (with_reducible repeat first | apply bDn | apply bDr | apply bAl); exact BK233.out) hb); have n2_ := AsZ.mk (tBl (by repeat (first | (with_reducible first | exact HB.out | apply aBl | apply pBd | apply dBl | refine sBl ?_ GE233.out) | exact HB.out)) hb); have n3_ := AsZ.mk (hbox); have n4_ := AsZ.mk ((by rw [hg]; exact (zBl (by repeat (first | (with_reducible first | exact HB.out | apply aBl | apply pBd | apply dBl | refine sBl ?_ GE233.out) | exact HB.out))) : w.heap.size ≤ gb234)); have n5_ := AsZ.mk ((by rw [hg]; exact (zBl (by repeat (first | (with_reducible first | exact HB.out | apply aBl | apply pBd | apply dBl | refine sBl ?_ GE233.out) | exact HB.out))) : w.heap.size ≤ gb234)); have n6_ := AsZ.mk ((by rw [hg]; exact Nat.ne_of_lt (bLt (g := gb233) (o := .cells #[.int .i64 a1_0, .string a1_1, .int .i64 a1_2, .string a1_3, .slice A1_4 l1_4.length c1_4] 40 (0, 0)) (by (with_reducible repeat first | apply bDn | apply bDr | apply bAl); exact BK233.out)) : gb233 ≠ gb234)); have n7_ := AsZ.mk ((by rw [hg]; exact Nat.ne_of_gt (bLt (g := gb233) (o := .cells #[.int .i64 a1_0, .string a1_1, .int .i64 a1_2, .string a1_3, .slice A1_4 l1_4.length c1_4] 40 (0, 0)) (by (with_reducible repeat first | apply bDn | apply bDr | apply bAl); exact BK233.out)) : gb234 ≠ gb233)); clear HO1_4; clear BK233; clear HB; have HO1_4 := n0_; have BK233 := n1_; have HB := n2_; have BK234 := n3_; have GW234 := n4_; have GE234 := n5_; have NB233_234 := n6_; have NB234_233 := n7_; clear n0_ n1_ n2_ n3_ n4_ n5_ n6_ n7_; clear hb hbox hg; have hnb77 := NB233_234.out; have hnc77 := NB234_233.out; obtain ⟨hcz78_0, hcz78_1, hcz78_2, hcz78_3, hcz78_4⟩ := celN5 BK233.out; obtain ⟨hfz78_0, hfz78_1, hfz78_2, hfz78_3, hfz78_4⟩ := fzN5 BK233.out; obtain ⟨hcz79_0, hcz79_1, hcz79_2, hcz79_3, hcz79_4⟩ := celN5 BK234.out; obtain ⟨hfz79_0, hfz79_1, hfz79_2, hfz79_3, hfz79_4⟩ := fzN5 BK234.out))
            refine bodyPost_ret (results_cell_row rfl _ _ gb234 40 #[.int .i64 a1_0, .string a1_1, .int .i64 a1_2, .string a1_3, .slice A1_4 l1_4.length c1_4] (0, 0) _ rfl (by (with_reducible repeat first | apply bDn | apply bDr | apply bAl); refine bPu (cs := #[.int .i64 a1_0, .string a1_1, .int .i64 a1_2, .string a1_3, .slice none 0 0]) ?_ 4 _ rfl; (with_reducible repeat first | apply bDn | apply bDr | apply bAl); refine bPu (cs := #[.int .i64 a1_0, .string a1_1, .int .i64 a1_2, .string (⟨#[]⟩ : ByteArray), .slice none 0 0]) ?_ 3 _ rfl; (with_reducible repeat first | apply bDn | apply bDr | apply bAl); refine bPu (cs := #[.int .i64 a1_0, .string a1_1, .int .i64 0, .string (⟨#[]⟩ : ByteArray), .slice none 0 0]) ?_ 2 _ rfl; (with_reducible repeat first | apply bDn | apply bDr | apply bAl); refine bPu (cs := #[.int .i64 a1_0, .string (⟨#[]⟩ : ByteArray), .int .i64 0, .string (⟨#[]⟩ : ByteArray), .slice none 0 0]) ?_ 1 _ rfl; (with_reducible repeat first | apply bDn | apply bDr | apply bAl); refine bPu (cs := #[.int .i64 0, .string (⟨#[]⟩ : ByteArray), .int .i64 0, .string (⟨#[]⟩ : ByteArray), .slice none 0 0]) ?_ 0 _ rfl; (with_reducible repeat first | apply bDn | apply bDr | apply bAl); exact BK234.out) Try.underlying40 rfl (by kernel_rfl)) rfl ?_
            exact ⟨_, by first | rfl | (simp [eWn, eWs] <;> rfl) | (simp [*, eWn, eWs] <;> rfl), by (with_reducible repeat (first | apply Kd.V_alloc | apply Kd.V_drewN | apply Kd.V_drew)); exact Kd.V_mono (Kd.V_far (p := ⟨gb234, 4, none⟩) (Kd.V_far (p := ⟨gb234, 3, none⟩) (Kd.V_far (p := ⟨gb234, 2, none⟩) (Kd.V_far (p := ⟨gb234, 1, none⟩) (Kd.V_far (p := ⟨gb234, 0, none⟩) (Kd.V_mono HO1_4.out (fun k_ hk => (⟨hk, hk.2⟩ : _ ∧ k_ ≠ gb234))) (fun _ hk => hk.2) (.int .i64 a1_0)) (fun _ hk => hk.2) (.string a1_1)) (fun _ hk => hk.2) (.int .i64 a1_2)) (fun _ hk => hk.2) (.string a1_3)) (fun _ hk => hk.2) (.slice A1_4 l1_4.length c1_4)) (fun _ hk => hk.1.1.1), by repeat (first | (with_reducible first | exact HB.out | apply aBl | apply pBd | apply dBl | refine sBl ?_ GE233.out | refine sBl ?_ GE234.out) | exact HB.out)⟩
def spenceref01_Bytes.l0 : Nat → List Int → List Int → Int → Int → Option (Bool)
  | 0, _, _, _, _ => none
  | k + 1, x0, x1, x12, x13 => if x13 < x12 then (if 0 ≤ x13 then (if x13 < (x0.length : Int) then (if x13 < (x1.length : Int) then (if (rd x0 x13) = (rd x1 x13) then (spenceref01_Bytes.l0 k x0 x1 x12 (wrap64 (x13 + 1))) else (some false)) else (none)) else (none)) else (none)) else (some true)
def spenceref01_Bytes.f (k : Nat) (l0 : List Int) (l1 : List Int) : Option (Bool) := if (l0.length : Int) = (l1.length : Int) then (spenceref01_Bytes.l0 k l0 l1 (l0.length : Int) 0) else (some false)
theorem spenceref01_Bytes.mono_l : ∀ k, (∀ y0 y1 y2 y3, LeO (spenceref01_Bytes.l0 k y0 y1 y2 y3) (spenceref01_Bytes.l0 (k + 1) y0 y1 y2 y3))
  | 0 => fun _ _ _ _ r h => by simp [spenceref01_Bytes.l0] at h
  | k + 1 => by
    have ih0 := spenceref01_Bytes.mono_l k
    · intro y0 y1 y2 y3
      unfold spenceref01_Bytes.l0
      repeat' first
      | (with_reducible exact ih0 _ _ _ _)
      | (with_reducible exact LeO.refl _)
      | (with_reducible exact LeO.none _)
      | (with_reducible refine LeO.ite ?_ ?_)
      | (with_reducible refine LeO.bind ?_ (fun _ => ?_))
      | exact ih0 _ _ _ _
      | exact LeO.none _
      | refine LeO.ite ?_ ?_
      | refine LeO.bind ?_ (fun _ => ?_)
theorem spenceref01_Bytes.mono : ∀ a0 a1 k, LeO (spenceref01_Bytes.f k a0 a1) (spenceref01_Bytes.f (k + 1) a0 a1) := by
  intro a0 a1 k
  have ih0 := spenceref01_Bytes.mono_l k
  unfold spenceref01_Bytes.f
  repeat' first
      | (with_reducible exact ih0 _ _ _ _)
      | (with_reducible exact LeO.refl _)
      | (with_reducible exact LeO.none _)
      | (with_reducible refine LeO.ite ?_ ?_)
      | (with_reducible refine LeO.bind ?_ (fun _ => ?_))
      | exact ih0 _ _ _ _
      | exact LeO.none _
      | refine LeO.ite ?_ ?_
      | refine LeO.bind ?_ (fun _ => ?_)
set_option maxHeartbeats 8000000 in
set_option maxRecDepth 100000 in
theorem spenceref01_Bytes.calls (k : Nat) (A0 : Option Addr) (c0 : Nat) (l0 : List Int) (A1 : Option Addr) (c1 : Nat) (l1 : List Int) (r : Bool) (w : World) (hr0 : Kd.C (Kd.int .u8) w A0 l0.length l0) (hc0 : l0.length ≤ c0) (hr1 : Kd.C (Kd.int .u8) w A1 l1.length l1) (hc1 : l1.length ≤ c1) (h : spenceref01_Bytes.f k l0 l1 = some r) :
    Calls Try.prog 25 #[.slice A0 l0.length c0, .slice A1 l1.length c1] w fun e w' => e = .returned (.bool r) ∧ Drawn0 w w' := by
  have HR0 := AsZ.mk hr0
  have HC0 := AsZ.mk hc0
  clear hr0 hc0
  have HR1 := AsZ.mk hr1
  have HC1 := AsZ.mk hc1
  clear hr1 hc1
  have H : (if (l0.length : Int) = (l1.length : Int) then (spenceref01_Bytes.l0 k l0 l1 (l0.length : Int) 0) else (some false)) = some r := h
  clear h
  by_cases c3 : (l0.length : Int) = (l1.length : Int)
  · rw [if_pos c3] at H
    have c3b0 : ((l0.length : Int) == (l1.length : Int)) = true := beq_iff_eq.mpr c3
    have c3b1 : ((l0.length : Int) != (l1.length : Int)) = false := bne_eq_false_iff_eq.mpr c3
    have c3b2 : (l0.length == l1.length) = true := by first | simpa using c3 | (simp at c3 ⊢; omega)
    clear c3
    have H' := AsZ.mk H
    clear H
    go_enter Try.func25, Try.ntmps25
    go_wp2
    repeat (go_quiet (fail); try go_wp2)
    go_loopg [13] k (fun kq v13 w' => ∃ (x13_1 : Int), v13 = .int .i64 x13_1 ∧ AsZ (spenceref01_Bytes.l0 kq l0 l1 (l0.length : Int) x13_1 = some r) ∧ AsZ (kq ≤ k) ∧ Drawn0 w w')
    case atStart => exact ⟨(0), (by first | rfl | (simp; done) | (simp [*]; done)), H', ⟨Nat.le_refl _⟩, by repeat (first | exact Drawn0.refl _ | apply Drawn0.step)⟩
    case round =>
      clear H'
      try clear c1
      try clear c2
      try clear p2
      try clear c3
      try clear c3b0
      try clear c3b1
      try clear c3b2
      obtain ⟨x13_1, rfl, HA, HK1, ⟨m1, rfl⟩⟩ := hrel
      cases gk with
      | zero => exact absurd HA.out (by simp [spenceref01_Bytes.l0])
      | succ k1 =>
        have H := HA.out
        clear HA
        simp only [spenceref01_Bytes.l0] at H
        by_cases c4 : x13_1 < (l0.length : Int)
        · rw [if_pos c4] at H
          have c4b0 : decide (x13_1 < (l0.length : Int)) = true := decide_eq_true c4
          clear c4
          by_cases c5 : 0 ≤ x13_1
          · rw [if_pos c5] at H
            have c5b0 : decide (0 ≤ x13_1) = true := decide_eq_true c5
            clear c5
            by_cases c6 : x13_1 < (l0.length : Int)
            · rw [if_pos c6] at H
              have c6b0 : decide (x13_1 < (l0.length : Int)) = true := decide_eq_true c6
              clear c6
              by_cases c7 : x13_1 < (l1.length : Int)
              · rw [if_pos c7] at H
                have c7b0 : decide (x13_1 < (l1.length : Int)) = true := decide_eq_true c7
                clear c7
                by_cases c8 : (rd l0 x13_1) = (rd l1 x13_1)
                · rw [if_pos c8] at H
                  have c8b0 : ((rd l0 x13_1) == (rd l1 x13_1)) = true := beq_iff_eq.mpr c8
                  have c8b1 : ((rd l0 x13_1) != (rd l1 x13_1)) = false := bne_eq_false_iff_eq.mpr c8
                  clear c8
                  have H' := AsZ.mk H
                  clear H
                  have p247 : 0 ≤ (x13_1 : Int) := of_decide_eq_true (by first | (with_reducible assumption) | assumption)
                  have q247 : x13_1 < (l0.length : Int) := of_decide_eq_true (by first | (with_reducible assumption) | assumption)
                  obtain ⟨ad247, e247, hx247_0⟩ := Kd.at_int HR0.out x13_1 p247 q247
                  cases e247
                  replace p247 := eq_true p247
                  replace q247 := eq_true q247
                  have p248 : 0 ≤ (x13_1 : Int) := of_decide_eq_true (by first | (with_reducible assumption) | assumption)
                  have q248 : x13_1 < (l1.length : Int) := of_decide_eq_true (by first | (with_reducible assumption) | assumption)
                  obtain ⟨ad248, e248, hx248_0⟩ := Kd.at_int HR1.out x13_1 p248 q248
                  cases e248
                  replace p248 := eq_true p248
                  replace q248 := eq_true q248
                  go_wp2
                  repeat (go_quiet (fail); try go_wp2)
                  go_roundg k1
                  case measure => have := HK1.out; omega
                  case rel => exact ⟨(wrap64 (x13_1 + 1)), (by first | rfl | (simp; done) | (simp [*]; done)), H', ⟨by have := HK1.out; omega⟩, by repeat (first | exact Drawn0.refl _ | apply Drawn0.step)⟩
                · rw [if_neg c8] at H
                  have c8b0 : ((rd l0 x13_1) == (rd l1 x13_1)) = false := beq_eq_false_iff_ne.mpr c8
                  have c8b1 : ((rd l0 x13_1) != (rd l1 x13_1)) = true := bne_iff_ne.mpr c8
                  obtain rfl := Option.some.inj H
                  have p247 : 0 ≤ (x13_1 : Int) := of_decide_eq_true (by first | (with_reducible assumption) | assumption)
                  have q247 : x13_1 < (l0.length : Int) := of_decide_eq_true (by first | (with_reducible assumption) | assumption)
                  obtain ⟨ad247, e247, hx247_0⟩ := Kd.at_int HR0.out x13_1 p247 q247
                  cases e247
                  replace p247 := eq_true p247
                  replace q247 := eq_true q247
                  have p248 : 0 ≤ (x13_1 : Int) := of_decide_eq_true (by first | (with_reducible assumption) | assumption)
                  have q248 : x13_1 < (l1.length : Int) := of_decide_eq_true (by first | (with_reducible assumption) | assumption)
                  obtain ⟨ad248, e248, hx248_0⟩ := Kd.at_int HR1.out x13_1 p248 q248
                  cases e248
                  replace p248 := eq_true p248
                  replace q248 := eq_true q248
                  go_wp2
                  repeat (go_quiet (fail); try go_wp2)
                  go_ret
                  exact ⟨by first | rfl | (simp; done) | (simp [*]; done) | exact nEm _ | exact eEm _, by repeat (first | exact Drawn0.refl _ | apply Drawn0.step)⟩
              · rw [if_neg c7] at H
                exact absurd H (by simp)
            · rw [if_neg c6] at H
              exact absurd H (by simp)
          · rw [if_neg c5] at H
            exact absurd H (by simp)
        · rw [if_neg c4] at H
          have c4b0 : decide (x13_1 < (l0.length : Int)) = false := decide_eq_false c4
          clear c4
          obtain rfl := Option.some.inj H
          go_wp2
          repeat (go_quiet (fail); try go_wp2)
          go_ret
          exact ⟨by first | rfl | (simp; done) | (simp [*]; done) | exact nEm _ | exact eEm _, by repeat (first | exact Drawn0.refl _ | apply Drawn0.step)⟩
  · rw [if_neg c3] at H
    have c3b0 : ((l0.length : Int) == (l1.length : Int)) = false := beq_eq_false_iff_ne.mpr c3
    have c3b1 : ((l0.length : Int) != (l1.length : Int)) = true := bne_iff_ne.mpr c3
    have c3b2 : (l0.length == l1.length) = false := by first | simpa using c3 | (simp at c3 ⊢; omega)
    obtain rfl := Option.some.inj H
    go_enter Try.func25, Try.ntmps25
    go_wp2
    repeat (go_quiet (fail); try go_wp2)
    go_ret
    exact ⟨by first | rfl | (simp; done) | (simp [*]; done) | exact nEm _ | exact eEm _, by repeat (first | exact Drawn0.refl _ | apply Drawn0.step)⟩
def spenceref24_SameReply.f (k : Nat) (a0_0 : Int) (a0_1 : ByteArray) (a0_2 : Int) (a0_3 : ByteArray) (l0_4 : List Int) (a1_0 : Int) (a1_1 : ByteArray) (a1_2 : Int) (a1_3 : ByteArray) (l1_4 : List Int) : Option (Bool) := if a0_0 = a1_0 then (if a0_1.toList = a1_1.toList then (if a0_2 = a1_2 then (if a0_3.toList = a1_3.toList then ((spenceref01_Bytes.f k l0_4 l1_4).bind fun t251 => (some t251)) else (some false)) else (some false)) else (some false)) else (some false)
theorem spenceref24_SameReply.mono : ∀ a0 a1 a2 a3 a4 a5 a6 a7 a8 a9 k, LeO (spenceref24_SameReply.f k a0 a1 a2 a3 a4 a5 a6 a7 a8 a9) (spenceref24_SameReply.f (k + 1) a0 a1 a2 a3 a4 a5 a6 a7 a8 a9) := by
  intro a0 a1 a2 a3 a4 a5 a6 a7 a8 a9 k
  unfold spenceref24_SameReply.f
  repeat' first
      | (with_reducible exact spenceref01_Bytes.mono _ _ _)
      | (with_reducible exact LeO.refl _)
      | (with_reducible exact LeO.none _)
      | (with_reducible refine LeO.ite ?_ ?_)
      | (with_reducible refine LeO.bind ?_ (fun _ => ?_))
      | exact spenceref01_Bytes.mono _ _ _
      | exact LeO.none _
      | refine LeO.ite ?_ ?_
      | refine LeO.bind ?_ (fun _ => ?_)
set_option maxHeartbeats 8000000 in
set_option maxRecDepth 100000 in
theorem spenceref24_SameReply.calls (k : Nat) (a0_0 : Int) (a0_1 : ByteArray) (a0_2 : Int) (a0_3 : ByteArray) (A0_4 : Option Addr) (c0_4 : Nat) (l0_4 : List Int) (a1_0 : Int) (a1_1 : ByteArray) (a1_2 : Int) (a1_3 : ByteArray) (A1_4 : Option Addr) (c1_4 : Nat) (l1_4 : List Int) (r : Bool) (w : World) (hr0_4 : Kd.C (Kd.int .u8) w A0_4 l0_4.length l0_4) (hc0_4 : l0_4.length ≤ c0_4) (hr1_4 : Kd.C (Kd.int .u8) w A1_4 l1_4.length l1_4) (hc1_4 : l1_4.length ≤ c1_4) (h : spenceref24_SameReply.f k a0_0 a0_1 a0_2 a0_3 l0_4 a1_0 a1_1 a1_2 a1_3 l1_4 = some r) :
    Calls Try.prog 11 #[.agg #[.int .i64 a0_0, .string a0_1, .int .i64 a0_2, .string a0_3, .slice A0_4 l0_4.length c0_4], .agg #[.int .i64 a1_0, .string a1_1, .int .i64 a1_2, .string a1_3, .slice A1_4 l1_4.length c1_4]] w fun e w' => e = .returned (.bool r) ∧ Below w.heap.size w w' := by
  have hu40 := Try.underlying40
  have HR0_4 := AsZ.mk hr0_4
  have HC0_4 := AsZ.mk hc0_4
  clear hr0_4 hc0_4
  have HR1_4 := AsZ.mk hr1_4
  have HC1_4 := AsZ.mk hc1_4
  clear hr1_4 hc1_4
  have HB := AsZ.mk (Below.refl w.heap.size w)
  have H : (if a0_0 = a1_0 then (if a0_1.toList = a1_1.toList then (if a0_2 = a1_2 then (if a0_3.toList = a1_3.toList then ((spenceref01_Bytes.f k l0_4 l1_4).bind fun t251 => (some t251)) else (some false)) else (some false)) else (some false)) else (some false)) = some r := h
  clear h
  by_cases c3 : a0_0 = a1_0
  · rw [if_pos c3] at H
    have c3b0 : (a0_0 == a1_0) = true := beq_iff_eq.mpr c3
    have c3b1 : (a0_0 != a1_0) = false := bne_eq_false_iff_eq.mpr c3
    clear c3
    by_cases c4 : a0_1.toList = a1_1.toList
    · rw [if_pos c4] at H
      have c4b0 : (a0_1.toList == a1_1.toList) = true := beq_iff_eq.mpr c4
      have c4b1 : (a0_1.toList != a1_1.toList) = false := bne_eq_false_iff_eq.mpr c4
      clear c4
      by_cases c5 : a0_2 = a1_2
      · rw [if_pos c5] at H
        have c5b0 : (a0_2 == a1_2) = true := beq_iff_eq.mpr c5
        have c5b1 : (a0_2 != a1_2) = false := bne_eq_false_iff_eq.mpr c5
        clear c5
        by_cases c6 : a0_3.toList = a1_3.toList
        · rw [if_pos c6] at H
          have c6b0 : (a0_3.toList == a1_3.toList) = true := beq_iff_eq.mpr c6
          have c6b1 : (a0_3.toList != a1_3.toList) = false := bne_eq_false_iff_eq.mpr c6
          clear c6
          replace H := Option.bind_eq_some_iff.mp H
          obtain ⟨t251, A70, H⟩ := H
          replace H : (some t251) = some r := H
          have A7 := AsZ.mk A70
          clear A70
          obtain rfl := Option.some.inj H
          go_enter Try.func11, Try.ntmps11
          go_wp2_with (first | ((with_reducible refine gDs (N := 2) rfl ?_); refine bEv ?hg (N := 2) ?hd (cs := #[.int .i64 a0_0, .string a0_1, .int .i64 a0_2, .string a0_3, .slice A0_4 l0_4.length c0_4]) (t := 40) ?hr ?_; (case hd => rfl); (case hg => rfl); (case hr => first | (go_simp; done) | (go_simp; rfl)); intro gb249 hg w8 hbox hb; have n0_ := AsZ.mk (tBl (by repeat (first | (with_reducible first | exact HB.out | apply aBl | apply pBd | apply dBl) | exact HB.out)) hb); have n1_ := AsZ.mk (hbox); have n2_ := AsZ.mk ((by rw [hg]; exact (zBl (by repeat (first | (with_reducible first | exact HB.out | apply aBl | apply pBd | apply dBl) | exact HB.out))) : w.heap.size ≤ gb249)); have n3_ := AsZ.mk ((by rw [hg]; exact (zBl (by repeat (first | (with_reducible first | exact HB.out | apply aBl | apply pBd | apply dBl) | exact HB.out))) : w.heap.size ≤ gb249)); clear HB; have HB := n0_; have BK249 := n1_; have GW249 := n2_; have GE249 := n3_; clear n0_ n1_ n2_ n3_; clear hb hbox hg) | ((with_reducible refine gDs (N := 3) rfl ?_); refine bEv ?hg (N := 3) ?hd (cs := #[.int .i64 a1_0, .string a1_1, .int .i64 a1_2, .string a1_3, .slice A1_4 l1_4.length c1_4]) (t := 40) ?hr ?_; (case hd => rfl); (case hg => rfl); (case hr => first | (go_simp; done) | (go_simp; rfl)); intro gb250 hg w9 hbox hb; have n0_ := AsZ.mk (bBl (g := gb249) (o := .cells #[.int .i64 a0_0, .string a0_1, .int .i64 a0_2, .string a0_3, .slice A0_4 l0_4.length c0_4] 40 (0, 0)) (by (with_reducible repeat first | apply bDn | apply bDr | apply bAl); exact BK249.out) hb); have n1_ := AsZ.mk (tBl (by repeat (first | (with_reducible first | exact HB.out | apply aBl | apply pBd | apply dBl | refine sBl ?_ GE249.out) | exact HB.out)) hb); have n2_ := AsZ.mk (hbox); have n3_ := AsZ.mk ((by rw [hg]; exact (zBl (by repeat (first | (with_reducible first | exact HB.out | apply aBl | apply pBd | apply dBl | refine sBl ?_ GE249.out) | exact HB.out))) : w.heap.size ≤ gb250)); have n4_ := AsZ.mk ((by rw [hg]; exact (zBl (by repeat (first | (with_reducible first | exact HB.out | apply aBl | apply pBd | apply dBl | refine sBl ?_ GE249.out) | exact HB.out))) : w.heap.size ≤ gb250)); have n5_ := AsZ.mk ((by rw [hg]; exact Nat.ne_of_lt (bLt (g := gb249) (o := .cells #[.int .i64 a0_0, .string a0_1, .int .i64 a0_2, .string a0_3, .slice A0_4 l0_4.length c0_4] 40 (0, 0)) (by (with_reducible repeat first | apply bDn | apply bDr | apply bAl); exact BK249.out)) : gb249 ≠ gb250)); have n6_ := AsZ.mk ((by rw [hg]; exact Nat.ne_of_gt (bLt (g := gb249) (o := .cells #[.int .i64 a0_0, .string a0_1, .int .i64 a0_2, .string a0_3, .slice A0_4 l0_4.length c0_4] 40 (0, 0)) (by (with_reducible repeat first | apply bDn | apply bDr | apply bAl); exact BK249.out)) : gb250 ≠ gb249)); clear BK249; clear HB; have BK249 := n0_; have HB := n1_; have BK250 := n2_; have GW250 := n3_; have GE250 := n4_; have NB249_250 := n5_; have NB250_249 := n6_; clear n0_ n1_ n2_ n3_ n4_ n5_ n6_; clear hb hbox hg; have hnb10 := NB249_250.out; have hnc10 := NB250_249.out; obtain ⟨hcz11_0, hcz11_1, hcz11_2, hcz11_3, hcz11_4⟩ := celN5 BK249.out; obtain ⟨hfz11_0, hfz11_1, hfz11_2, hfz11_3, hfz11_4⟩ := fzN5 BK249.out; obtain ⟨hcz12_0, hcz12_1, hcz12_2, hcz12_3, hcz12_4⟩ := celN5 BK250.out; obtain ⟨hfz12_0, hfz12_1, hfz12_2, hfz12_3, hfz12_4⟩ := fzN5 BK250.out) | (go_at_call 25; (with_reducible refine (spenceref01_Bytes.calls k _ _ l0_4 _ _ l1_4 t251 _ ?side1 ?side2 ?side3 ?side4 A7.out).mono ?_); (case side1 => repeat (first | exact (Kd.C_below HR0_4.out HB.out) | (with_reducible refine Kd.C_alloc ?_ _) | (with_reducible refine Kd.C_drewN ?_ _) | (with_reducible refine Kd.C_drew ?_))); (case side2 => exact HC0_4.out); (case side3 => repeat (first | exact (Kd.C_below HR1_4.out HB.out) | (with_reducible refine Kd.C_alloc ?_ _) | (with_reducible refine Kd.C_drewN ?_ _) | (with_reducible refine Kd.C_drew ?_))); (case side4 => exact HC1_4.out); rintro e w' ⟨rfl, ⟨nd, rfl⟩⟩))
          go_ret
          exact ⟨by first | rfl | exact nEm _ | exact eEm _ | (simp [eWn, eWs] <;> rfl) | (simp [*, eWn, eWs] <;> rfl), by repeat (first | (with_reducible first | exact HB.out | apply aBl | apply pBd | apply dBl | refine sBl ?_ GE249.out | refine sBl ?_ GE250.out) | exact HB.out)⟩
        · rw [if_neg c6] at H
          have c6b0 : (a0_3.toList == a1_3.toList) = false := beq_eq_false_iff_ne.mpr c6
          have c6b1 : (a0_3.toList != a1_3.toList) = true := bne_iff_ne.mpr c6
          obtain rfl := Option.some.inj H
          go_enter Try.func11, Try.ntmps11
          go_wp2_with (first | ((with_reducible refine gDs (N := 2) rfl ?_); refine bEv ?hg (N := 2) ?hd (cs := #[.int .i64 a0_0, .string a0_1, .int .i64 a0_2, .string a0_3, .slice A0_4 l0_4.length c0_4]) (t := 40) ?hr ?_; (case hd => rfl); (case hg => rfl); (case hr => first | (go_simp; done) | (go_simp; rfl)); intro gb249 hg w13 hbox hb; have n0_ := AsZ.mk (tBl (by repeat (first | (with_reducible first | exact HB.out | apply aBl | apply pBd | apply dBl) | exact HB.out)) hb); have n1_ := AsZ.mk (hbox); have n2_ := AsZ.mk ((by rw [hg]; exact (zBl (by repeat (first | (with_reducible first | exact HB.out | apply aBl | apply pBd | apply dBl) | exact HB.out))) : w.heap.size ≤ gb249)); have n3_ := AsZ.mk ((by rw [hg]; exact (zBl (by repeat (first | (with_reducible first | exact HB.out | apply aBl | apply pBd | apply dBl) | exact HB.out))) : w.heap.size ≤ gb249)); clear HB; have HB := n0_; have BK249 := n1_; have GW249 := n2_; have GE249 := n3_; clear n0_ n1_ n2_ n3_; clear hb hbox hg) | ((with_reducible refine gDs (N := 3) rfl ?_); refine bEv ?hg (N := 3) ?hd (cs := #[.int .i64 a1_0, .string a1_1, .int .i64 a1_2, .string a1_3, .slice A1_4 l1_4.length c1_4]) (t := 40) ?hr ?_; (case hd => rfl); (case hg => rfl); (case hr => first | (go_simp; done) | (go_simp; rfl)); intro gb250 hg w14 hbox hb; have n0_ := AsZ.mk (bBl (g := gb249) (o := .cells #[.int .i64 a0_0, .string a0_1, .int .i64 a0_2, .string a0_3, .slice A0_4 l0_4.length c0_4] 40 (0, 0)) (by (with_reducible repeat first | apply bDn | apply bDr | apply bAl); exact BK249.out) hb); have n1_ := AsZ.mk (tBl (by repeat (first | (with_reducible first | exact HB.out | apply aBl | apply pBd | apply dBl | refine sBl ?_ GE249.out) | exact HB.out)) hb); have n2_ := AsZ.mk (hbox); have n3_ := AsZ.mk ((by rw [hg]; exact (zBl (by repeat (first | (with_reducible first | exact HB.out | apply aBl | apply pBd | apply dBl | refine sBl ?_ GE249.out) | exact HB.out))) : w.heap.size ≤ gb250)); have n4_ := AsZ.mk ((by rw [hg]; exact (zBl (by repeat (first | (with_reducible first | exact HB.out | apply aBl | apply pBd | apply dBl | refine sBl ?_ GE249.out) | exact HB.out))) : w.heap.size ≤ gb250)); have n5_ := AsZ.mk ((by rw [hg]; exact Nat.ne_of_lt (bLt (g := gb249) (o := .cells #[.int .i64 a0_0, .string a0_1, .int .i64 a0_2, .string a0_3, .slice A0_4 l0_4.length c0_4] 40 (0, 0)) (by (with_reducible repeat first | apply bDn | apply bDr | apply bAl); exact BK249.out)) : gb249 ≠ gb250)); have n6_ := AsZ.mk ((by rw [hg]; exact Nat.ne_of_gt (bLt (g := gb249) (o := .cells #[.int .i64 a0_0, .string a0_1, .int .i64 a0_2, .string a0_3, .slice A0_4 l0_4.length c0_4] 40 (0, 0)) (by (with_reducible repeat first | apply bDn | apply bDr | apply bAl); exact BK249.out)) : gb250 ≠ gb249)); clear BK249; clear HB; have BK249 := n0_; have HB := n1_; have BK250 := n2_; have GW250 := n3_; have GE250 := n4_; have NB249_250 := n5_; have NB250_249 := n6_; clear n0_ n1_ n2_ n3_ n4_ n5_ n6_; clear hb hbox hg; have hnb15 := NB249_250.out; have hnc15 := NB250_249.out; obtain ⟨hcz16_0, hcz16_1, hcz16_2, hcz16_3, hcz16_4⟩ := celN5 BK249.out; obtain ⟨hfz16_0, hfz16_1, hfz16_2, hfz16_3, hfz16_4⟩ := fzN5 BK249.out; obtain ⟨hcz17_0, hcz17_1, hcz17_2, hcz17_3, hcz17_4⟩ := celN5 BK250.out; obtain ⟨hfz17_0, hfz17_1, hfz17_2, hfz17_3, hfz17_4⟩ := fzN5 BK250.out))
          go_ret
          exact ⟨by first | rfl | exact nEm _ | exact eEm _ | (simp [eWn, eWs] <;> rfl) | (simp [*, eWn, eWs] <;> rfl), by repeat (first | (with_reducible first | exact HB.out | apply aBl | apply pBd | apply dBl | refine sBl ?_ GE249.out | refine sBl ?_ GE250.out) | exact HB.out)⟩
      · rw [if_neg c5] at H
        have c5b0 : (a0_2 == a1_2) = false := beq_eq_false_iff_ne.mpr c5
        have c5b1 : (a0_2 != a1_2) = true := bne_iff_ne.mpr c5
        obtain rfl := Option.some.inj H
        go_enter Try.func11, Try.ntmps11
        go_wp2_with (first | ((with_reducible refine gDs (N := 2) rfl ?_); refine bEv ?hg (N := 2) ?hd (cs := #[.int .i64 a0_0, .string a0_1, .int .i64 a0_2, .string a0_3, .slice A0_4 l0_4.length c0_4]) (t := 40) ?hr ?_; (case hd => rfl); (case hg => rfl); (case hr => first | (go_simp; done) | (go_simp; rfl)); intro gb249 hg w18 hbox hb; have n0_ := AsZ.mk (tBl (by repeat (first | (with_reducible first | exact HB.out | apply aBl | apply pBd | apply dBl) | exact HB.out)) hb); have n1_ := AsZ.mk (hbox); have n2_ := AsZ.mk ((by rw [hg]; exact (zBl (by repeat (first | (with_reducible first | exact HB.out | apply aBl | apply pBd | apply dBl) | exact HB.out))) : w.heap.size ≤ gb249)); have n3_ := AsZ.mk ((by rw [hg]; exact (zBl (by repeat (first | (with_reducible first | exact HB.out | apply aBl | apply pBd | apply dBl) | exact HB.out))) : w.heap.size ≤ gb249)); clear HB; have HB := n0_; have BK249 := n1_; have GW249 := n2_; have GE249 := n3_; clear n0_ n1_ n2_ n3_; clear hb hbox hg) | ((with_reducible refine gDs (N := 3) rfl ?_); refine bEv ?hg (N := 3) ?hd (cs := #[.int .i64 a1_0, .string a1_1, .int .i64 a1_2, .string a1_3, .slice A1_4 l1_4.length c1_4]) (t := 40) ?hr ?_; (case hd => rfl); (case hg => rfl); (case hr => first | (go_simp; done) | (go_simp; rfl)); intro gb250 hg w19 hbox hb; have n0_ := AsZ.mk (bBl (g := gb249) (o := .cells #[.int .i64 a0_0, .string a0_1, .int .i64 a0_2, .string a0_3, .slice A0_4 l0_4.length c0_4] 40 (0, 0)) (by (with_reducible repeat first | apply bDn | apply bDr | apply bAl); exact BK249.out) hb); have n1_ := AsZ.mk (tBl (by repeat (first | (with_reducible first | exact HB.out | apply aBl | apply pBd | apply dBl | refine sBl ?_ GE249.out) | exact HB.out)) hb); have n2_ := AsZ.mk (hbox); have n3_ := AsZ.mk ((by rw [hg]; exact (zBl (by repeat (first | (with_reducible first | exact HB.out | apply aBl | apply pBd | apply dBl | refine sBl ?_ GE249.out) | exact HB.out))) : w.heap.size ≤ gb250)); have n4_ := AsZ.mk ((by rw [hg]; exact (zBl (by repeat (first | (with_reducible first | exact HB.out | apply aBl | apply pBd | apply dBl | refine sBl ?_ GE249.out) | exact HB.out))) : w.heap.size ≤ gb250)); have n5_ := AsZ.mk ((by rw [hg]; exact Nat.ne_of_lt (bLt (g := gb249) (o := .cells #[.int .i64 a0_0, .string a0_1, .int .i64 a0_2, .string a0_3, .slice A0_4 l0_4.length c0_4] 40 (0, 0)) (by (with_reducible repeat first | apply bDn | apply bDr | apply bAl); exact BK249.out)) : gb249 ≠ gb250)); have n6_ := AsZ.mk ((by rw [hg]; exact Nat.ne_of_gt (bLt (g := gb249) (o := .cells #[.int .i64 a0_0, .string a0_1, .int .i64 a0_2, .string a0_3, .slice A0_4 l0_4.length c0_4] 40 (0, 0)) (by (with_reducible repeat first | apply bDn | apply bDr | apply bAl); exact BK249.out)) : gb250 ≠ gb249)); clear BK249; clear HB; have BK249 := n0_; have HB := n1_; have BK250 := n2_; have GW250 := n3_; have GE250 := n4_; have NB249_250 := n5_; have NB250_249 := n6_; clear n0_ n1_ n2_ n3_ n4_ n5_ n6_; clear hb hbox hg; have hnb20 := NB249_250.out; have hnc20 := NB250_249.out; obtain ⟨hcz21_0, hcz21_1, hcz21_2, hcz21_3, hcz21_4⟩ := celN5 BK249.out; obtain ⟨hfz21_0, hfz21_1, hfz21_2, hfz21_3, hfz21_4⟩ := fzN5 BK249.out; obtain ⟨hcz22_0, hcz22_1, hcz22_2, hcz22_3, hcz22_4⟩ := celN5 BK250.out; obtain ⟨hfz22_0, hfz22_1, hfz22_2, hfz22_3, hfz22_4⟩ := fzN5 BK250.out))
        go_ret
        exact ⟨by first | rfl | exact nEm _ | exact eEm _ | (simp [eWn, eWs] <;> rfl) | (simp [*, eWn, eWs] <;> rfl), by repeat (first | (with_reducible first | exact HB.out | apply aBl | apply pBd | apply dBl | refine sBl ?_ GE249.out | refine sBl ?_ GE250.out) | exact HB.out)⟩
    · rw [if_neg c4] at H
      have c4b0 : (a0_1.toList == a1_1.toList) = false := beq_eq_false_iff_ne.mpr c4
      have c4b1 : (a0_1.toList != a1_1.toList) = true := bne_iff_ne.mpr c4
      obtain rfl := Option.some.inj H
      go_enter Try.func11, Try.ntmps11
      go_wp2_with (first | ((with_reducible refine gDs (N := 2) rfl ?_); refine bEv ?hg (N := 2) ?hd (cs := #[.int .i64 a0_0, .string a0_1, .int .i64 a0_2, .string a0_3, .slice A0_4 l0_4.length c0_4]) (t := 40) ?hr ?_; (case hd => rfl); (case hg => rfl); (case hr => first | (go_simp; done) | (go_simp; rfl)); intro gb249 hg w23 hbox hb; have n0_ := AsZ.mk (tBl (by repeat (first | (with_reducible first | exact HB.out | apply aBl | apply pBd | apply dBl) | exact HB.out)) hb); have n1_ := AsZ.mk (hbox); have n2_ := AsZ.mk ((by rw [hg]; exact (zBl (by repeat (first | (with_reducible first | exact HB.out | apply aBl | apply pBd | apply dBl) | exact HB.out))) : w.heap.size ≤ gb249)); have n3_ := AsZ.mk ((by rw [hg]; exact (zBl (by repeat (first | (with_reducible first | exact HB.out | apply aBl | apply pBd | apply dBl) | exact HB.out))) : w.heap.size ≤ gb249)); clear HB; have HB := n0_; have BK249 := n1_; have GW249 := n2_; have GE249 := n3_; clear n0_ n1_ n2_ n3_; clear hb hbox hg) | ((with_reducible refine gDs (N := 3) rfl ?_); refine bEv ?hg (N := 3) ?hd (cs := #[.int .i64 a1_0, .string a1_1, .int .i64 a1_2, .string a1_3, .slice A1_4 l1_4.length c1_4]) (t := 40) ?hr ?_; (case hd => rfl); (case hg => rfl); (case hr => first | (go_simp; done) | (go_simp; rfl)); intro gb250 hg w24 hbox hb; have n0_ := AsZ.mk (bBl (g := gb249) (o := .cells #[.int .i64 a0_0, .string a0_1, .int .i64 a0_2, .string a0_3, .slice A0_4 l0_4.length c0_4] 40 (0, 0)) (by (with_reducible repeat first | apply bDn | apply bDr | apply bAl); exact BK249.out) hb); have n1_ := AsZ.mk (tBl (by repeat (first | (with_reducible first | exact HB.out | apply aBl | apply pBd | apply dBl | refine sBl ?_ GE249.out) | exact HB.out)) hb); have n2_ := AsZ.mk (hbox); have n3_ := AsZ.mk ((by rw [hg]; exact (zBl (by repeat (first | (with_reducible first | exact HB.out | apply aBl | apply pBd | apply dBl | refine sBl ?_ GE249.out) | exact HB.out))) : w.heap.size ≤ gb250)); have n4_ := AsZ.mk ((by rw [hg]; exact (zBl (by repeat (first | (with_reducible first | exact HB.out | apply aBl | apply pBd | apply dBl | refine sBl ?_ GE249.out) | exact HB.out))) : w.heap.size ≤ gb250)); have n5_ := AsZ.mk ((by rw [hg]; exact Nat.ne_of_lt (bLt (g := gb249) (o := .cells #[.int .i64 a0_0, .string a0_1, .int .i64 a0_2, .string a0_3, .slice A0_4 l0_4.length c0_4] 40 (0, 0)) (by (with_reducible repeat first | apply bDn | apply bDr | apply bAl); exact BK249.out)) : gb249 ≠ gb250)); have n6_ := AsZ.mk ((by rw [hg]; exact Nat.ne_of_gt (bLt (g := gb249) (o := .cells #[.int .i64 a0_0, .string a0_1, .int .i64 a0_2, .string a0_3, .slice A0_4 l0_4.length c0_4] 40 (0, 0)) (by (with_reducible repeat first | apply bDn | apply bDr | apply bAl); exact BK249.out)) : gb250 ≠ gb249)); clear BK249; clear HB; have BK249 := n0_; have HB := n1_; have BK250 := n2_; have GW250 := n3_; have GE250 := n4_; have NB249_250 := n5_; have NB250_249 := n6_; clear n0_ n1_ n2_ n3_ n4_ n5_ n6_; clear hb hbox hg; have hnb25 := NB249_250.out; have hnc25 := NB250_249.out; obtain ⟨hcz26_0, hcz26_1, hcz26_2, hcz26_3, hcz26_4⟩ := celN5 BK249.out; obtain ⟨hfz26_0, hfz26_1, hfz26_2, hfz26_3, hfz26_4⟩ := fzN5 BK249.out; obtain ⟨hcz27_0, hcz27_1, hcz27_2, hcz27_3, hcz27_4⟩ := celN5 BK250.out; obtain ⟨hfz27_0, hfz27_1, hfz27_2, hfz27_3, hfz27_4⟩ := fzN5 BK250.out))
      go_ret
      exact ⟨by first | rfl | exact nEm _ | exact eEm _ | (simp [eWn, eWs] <;> rfl) | (simp [*, eWn, eWs] <;> rfl), by repeat (first | (with_reducible first | exact HB.out | apply aBl | apply pBd | apply dBl | refine sBl ?_ GE249.out | refine sBl ?_ GE250.out) | exact HB.out)⟩
  · rw [if_neg c3] at H
    have c3b0 : (a0_0 == a1_0) = false := beq_eq_false_iff_ne.mpr c3
    have c3b1 : (a0_0 != a1_0) = true := bne_iff_ne.mpr c3
    obtain rfl := Option.some.inj H
    go_enter Try.func11, Try.ntmps11
    go_wp2_with (first | ((with_reducible refine gDs (N := 2) rfl ?_); refine bEv ?hg (N := 2) ?hd (cs := #[.int .i64 a0_0, .string a0_1, .int .i64 a0_2, .string a0_3, .slice A0_4 l0_4.length c0_4]) (t := 40) ?hr ?_; (case hd => rfl); (case hg => rfl); (case hr => first | (go_simp; done) | (go_simp; rfl)); intro gb249 hg w28 hbox hb; have n0_ := AsZ.mk (tBl (by repeat (first | (with_reducible first | exact HB.out | apply aBl | apply pBd | apply dBl) | exact HB.out)) hb); have n1_ := AsZ.mk (hbox); have n2_ := AsZ.mk ((by rw [hg]; exact (zBl (by repeat (first | (with_reducible first | exact HB.out | apply aBl | apply pBd | apply dBl) | exact HB.out))) : w.heap.size ≤ gb249)); have n3_ := AsZ.mk ((by rw [hg]; exact (zBl (by repeat (first | (with_reducible first | exact HB.out | apply aBl | apply pBd | apply dBl) | exact HB.out))) : w.heap.size ≤ gb249)); clear HB; have HB := n0_; have BK249 := n1_; have GW249 := n2_; have GE249 := n3_; clear n0_ n1_ n2_ n3_; clear hb hbox hg) | ((with_reducible refine gDs (N := 3) rfl ?_); refine bEv ?hg (N := 3) ?hd (cs := #[.int .i64 a1_0, .string a1_1, .int .i64 a1_2, .string a1_3, .slice A1_4 l1_4.length c1_4]) (t := 40) ?hr ?_; (case hd => rfl); (case hg => rfl); (case hr => first | (go_simp; done) | (go_simp; rfl)); intro gb250 hg w29 hbox hb; have n0_ := AsZ.mk (bBl (g := gb249) (o := .cells #[.int .i64 a0_0, .string a0_1, .int .i64 a0_2, .string a0_3, .slice A0_4 l0_4.length c0_4] 40 (0, 0)) (by (with_reducible repeat first | apply bDn | apply bDr | apply bAl); exact BK249.out) hb); have n1_ := AsZ.mk (tBl (by repeat (first | (with_reducible first | exact HB.out | apply aBl | apply pBd | apply dBl | refine sBl ?_ GE249.out) | exact HB.out)) hb); have n2_ := AsZ.mk (hbox); have n3_ := AsZ.mk ((by rw [hg]; exact (zBl (by repeat (first | (with_reducible first | exact HB.out | apply aBl | apply pBd | apply dBl | refine sBl ?_ GE249.out) | exact HB.out))) : w.heap.size ≤ gb250)); have n4_ := AsZ.mk ((by rw [hg]; exact (zBl (by repeat (first | (with_reducible first | exact HB.out | apply aBl | apply pBd | apply dBl | refine sBl ?_ GE249.out) | exact HB.out))) : w.heap.size ≤ gb250)); have n5_ := AsZ.mk ((by rw [hg]; exact Nat.ne_of_lt (bLt (g := gb249) (o := .cells #[.int .i64 a0_0, .string a0_1, .int .i64 a0_2, .string a0_3, .slice A0_4 l0_4.length c0_4] 40 (0, 0)) (by (with_reducible repeat first | apply bDn | apply bDr | apply bAl); exact BK249.out)) : gb249 ≠ gb250)); have n6_ := AsZ.mk ((by rw [hg]; exact Nat.ne_of_gt (bLt (g := gb249) (o := .cells #[.int .i64 a0_0, .string a0_1, .int .i64 a0_2, .string a0_3, .slice A0_4 l0_4.length c0_4] 40 (0, 0)) (by (with_reducible repeat first | apply bDn | apply bDr | apply bAl); exact BK249.out)) : gb250 ≠ gb249)); clear BK249; clear HB; have BK249 := n0_; have HB := n1_; have BK250 := n2_; have GW250 := n3_; have GE250 := n4_; have NB249_250 := n5_; have NB250_249 := n6_; clear n0_ n1_ n2_ n3_ n4_ n5_ n6_; clear hb hbox hg; have hnb30 := NB249_250.out; have hnc30 := NB250_249.out; obtain ⟨hcz31_0, hcz31_1, hcz31_2, hcz31_3, hcz31_4⟩ := celN5 BK249.out; obtain ⟨hfz31_0, hfz31_1, hfz31_2, hfz31_3, hfz31_4⟩ := fzN5 BK249.out; obtain ⟨hcz32_0, hcz32_1, hcz32_2, hcz32_3, hcz32_4⟩ := celN5 BK250.out; obtain ⟨hfz32_0, hfz32_1, hfz32_2, hfz32_3, hfz32_4⟩ := fzN5 BK250.out))
    go_ret
    exact ⟨by first | rfl | exact nEm _ | exact eEm _ | (simp [eWn, eWs] <;> rfl) | (simp [*, eWn, eWs] <;> rfl), by repeat (first | (with_reducible first | exact HB.out | apply aBl | apply pBd | apply dBl | refine sBl ?_ GE249.out | refine sBl ?_ GE250.out) | exact HB.out)⟩
def spencelaw32_OriginDoes.f (l0 : List (S34)) (a1 : Int) : Option (Bool) := some true
def spencelaw32_OriginOwn.f (l0 : List Int) (a1_0 : Int) (a1_1 : Bool) (a1_2 : ByteArray) (a1_3 : Int) (a1_4 : Int) : Option (Bool) := some true
def version_may.f (a0 : Int) (a1 : Int) : Option (Bool) := (nums_Fits.f a0 0 15).bind fun t252 => (if t252 = true then ((nums_Fits.f a1 0 1000000).bind fun t253 => (some t253)) else (some false))
set_option maxHeartbeats 8000000 in
set_option maxRecDepth 100000 in
theorem version_may.calls (a0 : Int) (a1 : Int) (r : Bool) (w : World) (h : version_may.f a0 a1 = some r) :
    Calls Try.prog 49 #[.int .i64 a0, .int .i64 a1] w fun e w' => e = .returned (.bool r) ∧ Drawn0 w w' := by
  have H : ((nums_Fits.f a0 0 15).bind fun t252 => (if t252 = true then ((nums_Fits.f a1 0 1000000).bind fun t253 => (some t253)) else (some false))) = some r := h
  clear h
  replace H := Option.bind_eq_some_iff.mp H
  obtain ⟨t252, A30, H⟩ := H
  replace H : (if t252 = true then ((nums_Fits.f a1 0 1000000).bind fun t253 => (some t253)) else (some false)) = some r := H
  have A3 := AsZ.mk A30
  clear A30
  by_cases c4 : t252 = true
  · subst c4
    have H1 : ((nums_Fits.f a1 0 1000000).bind fun t253 => (some t253)) = some r := by rw [if_pos rfl] at H; exact H
    clear H
    have H := H1
    clear H1
    replace H := Option.bind_eq_some_iff.mp H
    obtain ⟨t253, A50, H⟩ := H
    replace H : (some t253) = some r := H
    have A5 := AsZ.mk A50
    clear A50
    obtain rfl := Option.some.inj H
    go_enter Try.func49, Try.ntmps49
    go_wp2_with (first | ((with_reducible refine gCa (f := 56) rfl ?_); refine gLl (some 6) rfl rfl Try.func56 (by kernel_rfl) rfl #[.int .i64 a0, .int .i64 0, .int .i64 15] rfl (by (try simp only [lsD, lsE, lsF]); first | done | rfl | (simp only [lsG, lsH]; rfl)) ?_; (with_reducible refine (nums_Fits.calls a0 0 15 true _ A3.out).mono ?_); rintro e w' ⟨rfl, ⟨nd, rfl⟩⟩; refine ⟨_, rfl, ?_⟩) | (go_at_call 56; (with_reducible refine (nums_Fits.calls a1 0 1000000 t253 _ A5.out).mono ?_); rintro e w' ⟨rfl, ⟨nd, rfl⟩⟩))
    go_ret
    exact ⟨by first | rfl | (simp; done) | (simp [*]; done) | exact nEm _ | exact eEm _, by repeat (first | exact Drawn0.refl _ | apply Drawn0.step)⟩
  · replace c4 := Bool.eq_false_iff.mpr c4
    subst c4
    have H1 : (some false) = some r := by rw [if_neg (show ¬ (false = true) by decide)] at H; exact H
    clear H
    have H := H1
    clear H1
    obtain rfl := Option.some.inj H
    go_enter Try.func49, Try.ntmps49
    go_wp2_with (first | ((with_reducible refine gCa (f := 56) rfl ?_); refine gLl (some 6) rfl rfl Try.func56 (by kernel_rfl) rfl #[.int .i64 a0, .int .i64 0, .int .i64 15] rfl (by (try simp only [lsD, lsE, lsF]); first | done | rfl | (simp only [lsG, lsH]; rfl)) ?_; (with_reducible refine (nums_Fits.calls a0 0 15 false _ A3.out).mono ?_); rintro e w' ⟨rfl, ⟨nd, rfl⟩⟩; refine ⟨_, rfl, ?_⟩))
    go_ret
    exact ⟨by first | rfl | (simp; done) | (simp [*]; done) | exact nEm _ | exact eEm _, by repeat (first | exact Drawn0.refl _ | apply Drawn0.step)⟩
def version_Tag.f (k : Nat) (a0 : Int) (a1 : Int) : Option (ByteArray) := (version_may.f a0 a1).bind fun t254 => (if t254 = true then ((nums_Print.f k a0).bind fun t255 => (if 1 + t255.size ≤ 9223372036854775807 then (if 1 + t255.size + 1 ≤ 9223372036854775807 then ((nums_Print.f k a1).bind fun t256 => (if 1 + t255.size + 1 + t256.size ≤ 9223372036854775807 then (some ((((⟨#[118]⟩ : ByteArray) ++ t255) ++ (⟨#[45]⟩ : ByteArray)) ++ t256)) else (none))) else (none)) else (none))) else (some (⟨#[]⟩ : ByteArray)))
theorem version_Tag.mono : ∀ a0 a1 k, LeO (version_Tag.f k a0 a1) (version_Tag.f (k + 1) a0 a1) := by
  intro a0 a1 k
  unfold version_Tag.f
  repeat' first
      | (with_reducible exact nums_Print.mono _ _)
      | (with_reducible exact LeO.refl _)
      | (with_reducible exact LeO.none _)
      | (with_reducible refine LeO.ite ?_ ?_)
      | (with_reducible refine LeO.bind ?_ (fun _ => ?_))
      | exact nums_Print.mono _ _
      | exact LeO.none _
      | refine LeO.ite ?_ ?_
      | refine LeO.bind ?_ (fun _ => ?_)
set_option maxHeartbeats 8000000 in
set_option maxRecDepth 100000 in
theorem version_Tag.calls (k : Nat) (a0 : Int) (a1 : Int) (r : ByteArray) (w : World) (h : version_Tag.f k a0 a1 = some r) :
    Calls Try.prog 38 #[.int .i64 a0, .int .i64 a1] w fun e w' => e = .returned (.string r) ∧ Below w.heap.size w w' := by
  have HB := AsZ.mk (Below.refl w.heap.size w)
  have H : ((version_may.f a0 a1).bind fun t254 => (if t254 = true then ((nums_Print.f k a0).bind fun t255 => (if 1 + t255.size ≤ 9223372036854775807 then (if 1 + t255.size + 1 ≤ 9223372036854775807 then ((nums_Print.f k a1).bind fun t256 => (if 1 + t255.size + 1 + t256.size ≤ 9223372036854775807 then (some ((((⟨#[118]⟩ : ByteArray) ++ t255) ++ (⟨#[45]⟩ : ByteArray)) ++ t256)) else (none))) else (none)) else (none))) else (some (⟨#[]⟩ : ByteArray)))) = some r := h
  clear h
  replace H := Option.bind_eq_some_iff.mp H
  obtain ⟨t254, A30, H⟩ := H
  replace H : (if t254 = true then ((nums_Print.f k a0).bind fun t255 => (if 1 + t255.size ≤ 9223372036854775807 then (if 1 + t255.size + 1 ≤ 9223372036854775807 then ((nums_Print.f k a1).bind fun t256 => (if 1 + t255.size + 1 + t256.size ≤ 9223372036854775807 then (some ((((⟨#[118]⟩ : ByteArray) ++ t255) ++ (⟨#[45]⟩ : ByteArray)) ++ t256)) else (none))) else (none)) else (none))) else (some (⟨#[]⟩ : ByteArray))) = some r := H
  have A3 := AsZ.mk A30
  clear A30
  by_cases c4 : t254 = true
  · subst c4
    have H1 : ((nums_Print.f k a0).bind fun t255 => (if 1 + t255.size ≤ 9223372036854775807 then (if 1 + t255.size + 1 ≤ 9223372036854775807 then ((nums_Print.f k a1).bind fun t256 => (if 1 + t255.size + 1 + t256.size ≤ 9223372036854775807 then (some ((((⟨#[118]⟩ : ByteArray) ++ t255) ++ (⟨#[45]⟩ : ByteArray)) ++ t256)) else (none))) else (none)) else (none))) = some r := by rw [if_pos rfl] at H; exact H
    clear H
    have H := H1
    clear H1
    replace H := Option.bind_eq_some_iff.mp H
    obtain ⟨t255, A50, H⟩ := H
    replace H : (if 1 + t255.size ≤ 9223372036854775807 then (if 1 + t255.size + 1 ≤ 9223372036854775807 then ((nums_Print.f k a1).bind fun t256 => (if 1 + t255.size + 1 + t256.size ≤ 9223372036854775807 then (some ((((⟨#[118]⟩ : ByteArray) ++ t255) ++ (⟨#[45]⟩ : ByteArray)) ++ t256)) else (none))) else (none)) else (none)) = some r := H
    have A5 := AsZ.mk A50
    clear A50
    by_cases c6 : 1 + t255.size ≤ 9223372036854775807
    · rw [if_pos c6] at H
      have c6b0 := eq_true c6
      have c6b1 : decide (1 + t255.size ≤ 9223372036854775807) = true := decide_eq_true c6
      try have c6b2 : (9223372036854775807 < 1 + t255.size) = False := eq_false (Nat.not_lt.2 c6)
      by_cases c7 : 1 + t255.size + 1 ≤ 9223372036854775807
      · rw [if_pos c7] at H
        have c7b0 := eq_true c7
        have c7b1 : decide (1 + t255.size + 1 ≤ 9223372036854775807) = true := decide_eq_true c7
        try have c7b2 : (9223372036854775807 < 1 + t255.size + 1) = False := eq_false (Nat.not_lt.2 c7)
        replace H := Option.bind_eq_some_iff.mp H
        obtain ⟨t256, A80, H⟩ := H
        replace H : (if 1 + t255.size + 1 + t256.size ≤ 9223372036854775807 then (some ((((⟨#[118]⟩ : ByteArray) ++ t255) ++ (⟨#[45]⟩ : ByteArray)) ++ t256)) else (none)) = some r := H
        have A8 := AsZ.mk A80
        clear A80
        by_cases c9 : 1 + t255.size + 1 + t256.size ≤ 9223372036854775807
        · rw [if_pos c9] at H
          have c9b0 := eq_true c9
          have c9b1 : decide (1 + t255.size + 1 + t256.size ≤ 9223372036854775807) = true := decide_eq_true c9
          try have c9b2 : (9223372036854775807 < 1 + t255.size + 1 + t256.size) = False := eq_false (Nat.not_lt.2 c9)
          obtain rfl := Option.some.inj H
          go_enter Try.func38, Try.ntmps38
          go_wp2_with (first | ((with_reducible refine gCa (f := 49) rfl ?_); refine gLl (some 7) rfl rfl Try.func49 (by kernel_rfl) rfl #[.int .i64 a0, .int .i64 a1] rfl (by (try simp only [lsD, lsE, lsF]); first | done | rfl | (simp only [lsG, lsH]; rfl)) ?_; (with_reducible refine (version_may.calls a0 a1 true _ A3.out).mono ?_); rintro e w' ⟨rfl, ⟨nd, rfl⟩⟩; refine ⟨_, rfl, ?_⟩) | ((with_reducible refine gCa (f := 50) rfl ?_); refine gLl (some 10) rfl rfl Try.func50 (by kernel_rfl) rfl #[.int .i64 a0] rfl (by (try simp only [lsD, lsE, lsF]); first | done | rfl | (simp only [lsG, lsH]; rfl)) ?_; (with_reducible refine (nums_Print.calls k a0 t255 _ A5.out).mono ?_); rintro e w10 ⟨rfl, hb⟩; refine ⟨_, rfl, ?_⟩; have n0_ := AsZ.mk (tBl (by repeat (first | (with_reducible first | exact HB.out | apply aBl | apply pBd | apply dBl) | exact HB.out)) hb); clear HB; have HB := n0_; clear n0_; (try clear hb); (try clear hb2); (try clear hk); (try clear hi)) | ((with_reducible refine gCa (f := 50) rfl ?_); refine gLl (some 14) rfl rfl Try.func50 (by kernel_rfl) rfl #[.int .i64 a1] rfl (by (try simp only [lsD, lsE, lsF]); first | done | rfl | (simp only [lsG, lsH]; rfl)) ?_; (with_reducible refine (nums_Print.calls k a1 t256 _ A8.out).mono ?_); rintro e w11 ⟨rfl, hb⟩; refine ⟨_, rfl, ?_⟩; have n0_ := AsZ.mk (tBl (by repeat (first | (with_reducible first | exact HB.out | apply aBl | apply pBd | apply dBl) | exact HB.out)) hb); clear HB; have HB := n0_; clear n0_; (try clear hb); (try clear hb2); (try clear hk); (try clear hi)))
          go_ret
          exact ⟨by first | rfl | exact nEm _ | exact eEm _ | (simp [eWn, eWs] <;> rfl) | (simp [*, eWn, eWs] <;> rfl), by repeat (first | (with_reducible first | exact HB.out | apply aBl | apply pBd | apply dBl) | exact HB.out)⟩
        · rw [if_neg c9] at H
          exact absurd H (by simp)
      · rw [if_neg c7] at H
        exact absurd H (by simp)
    · rw [if_neg c6] at H
      exact absurd H (by simp)
  · replace c4 := Bool.eq_false_iff.mpr c4
    subst c4
    have H1 : (some (⟨#[]⟩ : ByteArray)) = some r := by rw [if_neg (show ¬ (false = true) by decide)] at H; exact H
    clear H
    have H := H1
    clear H1
    obtain rfl := Option.some.inj H
    go_enter Try.func38, Try.ntmps38
    go_wp2_with (first | ((with_reducible refine gCa (f := 49) rfl ?_); refine gLl (some 7) rfl rfl Try.func49 (by kernel_rfl) rfl #[.int .i64 a0, .int .i64 a1] rfl (by (try simp only [lsD, lsE, lsF]); first | done | rfl | (simp only [lsG, lsH]; rfl)) ?_; (with_reducible refine (version_may.calls a0 a1 false _ A3.out).mono ?_); rintro e w' ⟨rfl, ⟨nd, rfl⟩⟩; refine ⟨_, rfl, ?_⟩))
    go_ret
    exact ⟨by first | rfl | exact nEm _ | exact eEm _ | (simp [eWn, eWs] <;> rfl) | (simp [*, eWn, eWs] <;> rfl), by repeat (first | (with_reducible first | exact HB.out | apply aBl | apply pBd | apply dBl) | exact HB.out)⟩
end Go.Proofs.Ytpphnjmppkbpbaa.PAll
