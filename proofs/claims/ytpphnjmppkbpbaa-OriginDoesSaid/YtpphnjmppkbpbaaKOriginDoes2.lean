/- What the law OriginDoes leans on (part 3 of 7): Go functions as plain functions, that the code comes to them, and what these answer. -/
import Derived.Test.YtpphnjmppkbpbaaKOriginDoes1
namespace Go.Proofs.Ytpphnjmppkbpbaa.PAll
open Go.RowKit Go.Proofs.Ytpphnjmppkbpbaa.Xw Go.Proofs.YtpphnjmppkbpbaaW.PrintWords Go.Proofs.YtpphnjmppkbpbaaW.PrintLast Go.Proofs.YtpphnjmppkbpbaaW.PrintMore
attribute [local go_sem] max2_int min2_int max_two min_two max_three min_three max_four min_four
set_option linter.unusedVariables false
set_option linter.unusedSimpArgs false
def reply_Faulty.f (k : Nat) (a0 : Int) (a1_0 : Int) (a1_1 : ByteArray) (a1_2 : Int) (a1_3 : ByteArray) (l1_4 : List Int) : Option (Int × ByteArray × Int × ByteArray × List Int) := (bytes_Clone.f l1_4).bind fun t145 => (if a0 = 5 then ((reply_Gone.f).bind fun bt148 => (some (bt148.1, bt148.2.1, bt148.2.2.1, bt148.2.2.2.1, bt148.2.2.2.2))) else (if a0 = 1 then ((reply_Down.f).bind fun bt159 => (some (bt159.1, bt159.2.1, bt159.2.2.1, bt159.2.2.2.1, bt159.2.2.2.2))) else (if a0 = 4 then (if a1_1.size + 1 ≤ 9223372036854775807 then (some (a1_0, a1_1 ++ (⟨#[34]⟩ : ByteArray), a1_2, a1_3, t145)) else (none)) else (if a0 = 3 then ((reply_shifted.f k a1_3).bind fun t155 => (some (a1_0, a1_1, a1_2, t155, t145))) else (if a0 = 2 then (if (t145.length : Int) > 0 then (if 0 ≤ (wrap64 ((t145.length : Int) - 1)) then (if (wrap64 ((t145.length : Int) - 1)) ≤ (t145.length : Int) then (some (a1_0, a1_1, a1_2, a1_3, (t145.take ((wrap64 ((t145.length : Int) - 1)) : Int).toNat))) else (none)) else (none)) else (some (a1_0, a1_1, a1_2, a1_3, t145))) else (some (a1_0, a1_1, a1_2, a1_3, t145)))))))
theorem reply_Faulty.mono : ∀ a0 a1 a2 a3 a4 a5 k, LeO (reply_Faulty.f k a0 a1 a2 a3 a4 a5) (reply_Faulty.f (k + 1) a0 a1 a2 a3 a4 a5) := by
  intro a0 a1 a2 a3 a4 a5 k
  unfold reply_Faulty.f
  repeat' first
      | (with_reducible exact reply_shifted.mono _ _)
      | (with_reducible exact LeO.refl _)
      | (with_reducible exact LeO.none _)
      | (with_reducible refine LeO.ite ?_ ?_)
      | (with_reducible refine LeO.bind ?_ (fun _ => ?_))
      | exact reply_shifted.mono _ _
      | exact LeO.none _
      | refine LeO.ite ?_ ?_
      | refine LeO.bind ?_ (fun _ => ?_)
set_option maxHeartbeats 8000000 in
set_option maxRecDepth 100000 in
theorem reply_Faulty.calls (k : Nat) (a0 : Int) (a1_0 : Int) (a1_1 : ByteArray) (a1_2 : Int) (a1_3 : ByteArray) (A1_4 : Option Addr) (c1_4 : Nat) (l1_4 : List Int) (r1 : Int) (r2 : ByteArray) (r3 : Int) (r4 : ByteArray) (r5 : List Int) (w : World) (hr1_4 : Kd.C (Kd.int .u8) w A1_4 l1_4.length l1_4) (hc1_4 : l1_4.length ≤ c1_4) (h : reply_Faulty.f k a0 a1_0 a1_1 a1_2 a1_3 l1_4 = some (r1, r2, r3, r4, r5)) :
    Calls Try.prog 30 #[.int .i64 a0, .agg #[.int .i64 a1_0, .string a1_1, .int .i64 a1_2, .string a1_3, .slice A1_4 l1_4.length c1_4]] w fun e w' => ∃ v4_ : Value, e = .returned (.agg #[.int .i64 r1, .string r2, .int .i64 r3, .string r4, v4_]) ∧ Kd.R (Kd.int .u8) 5 w' w.heap.size (fun _ => True) v4_ r5 ∧ Below w.heap.size w w' := by
  have hu40 := Try.underlying40
  have HR1_4 := AsZ.mk hr1_4
  have HC1_4 := AsZ.mk hc1_4
  clear hr1_4 hc1_4
  have HB := AsZ.mk (Below.refl w.heap.size w)
  have H : ((bytes_Clone.f l1_4).bind fun t145 => (if a0 = 5 then ((reply_Gone.f).bind fun bt148 => (some (bt148.1, bt148.2.1, bt148.2.2.1, bt148.2.2.2.1, bt148.2.2.2.2))) else (if a0 = 1 then ((reply_Down.f).bind fun bt159 => (some (bt159.1, bt159.2.1, bt159.2.2.1, bt159.2.2.2.1, bt159.2.2.2.2))) else (if a0 = 4 then (if a1_1.size + 1 ≤ 9223372036854775807 then (some (a1_0, a1_1 ++ (⟨#[34]⟩ : ByteArray), a1_2, a1_3, t145)) else (none)) else (if a0 = 3 then ((reply_shifted.f k a1_3).bind fun t155 => (some (a1_0, a1_1, a1_2, t155, t145))) else (if a0 = 2 then (if (t145.length : Int) > 0 then (if 0 ≤ (wrap64 ((t145.length : Int) - 1)) then (if (wrap64 ((t145.length : Int) - 1)) ≤ (t145.length : Int) then (some (a1_0, a1_1, a1_2, a1_3, (t145.take ((wrap64 ((t145.length : Int) - 1)) : Int).toNat))) else (none)) else (none)) else (some (a1_0, a1_1, a1_2, a1_3, t145))) else (some (a1_0, a1_1, a1_2, a1_3, t145)))))))) = some (r1, r2, r3, r4, r5) := h
  clear h
  replace H := Option.bind_eq_some_iff.mp H
  obtain ⟨t145, A30, H⟩ := H
  replace H : (if a0 = 5 then ((reply_Gone.f).bind fun bt148 => (some (bt148.1, bt148.2.1, bt148.2.2.1, bt148.2.2.2.1, bt148.2.2.2.2))) else (if a0 = 1 then ((reply_Down.f).bind fun bt159 => (some (bt159.1, bt159.2.1, bt159.2.2.1, bt159.2.2.2.1, bt159.2.2.2.2))) else (if a0 = 4 then (if a1_1.size + 1 ≤ 9223372036854775807 then (some (a1_0, a1_1 ++ (⟨#[34]⟩ : ByteArray), a1_2, a1_3, t145)) else (none)) else (if a0 = 3 then ((reply_shifted.f k a1_3).bind fun t155 => (some (a1_0, a1_1, a1_2, t155, t145))) else (if a0 = 2 then (if (t145.length : Int) > 0 then (if 0 ≤ (wrap64 ((t145.length : Int) - 1)) then (if (wrap64 ((t145.length : Int) - 1)) ≤ (t145.length : Int) then (some (a1_0, a1_1, a1_2, a1_3, (t145.take ((wrap64 ((t145.length : Int) - 1)) : Int).toNat))) else (none)) else (none)) else (some (a1_0, a1_1, a1_2, a1_3, t145))) else (some (a1_0, a1_1, a1_2, a1_3, t145))))))) = some (r1, r2, r3, r4, r5) := H
  have A3 := AsZ.mk A30
  clear A30
  by_cases c4 : a0 = 5
  · rw [if_pos c4] at H
    have c4b0 : (a0 == 5) = true := beq_iff_eq.mpr c4
    have c4b1 : (a0 != 5) = false := bne_eq_false_iff_eq.mpr c4
    clear c4
    replace H := Option.bind_eq_some_iff.mp H
    obtain ⟨⟨t148, t149, t150, t151, t152⟩, A50, H⟩ := H
    replace H : (some (t148, t149, t150, t151, t152)) = some (r1, r2, r3, r4, r5) := H
    have A5 := AsZ.mk A50
    clear A50
    simp only [Option.some.injEq, Prod.mk.injEq] at H
    obtain ⟨rfl, rfl, rfl, rfl, rfl⟩ := H
    go_enter Try.func30, Try.ntmps30
    go_wp2_with (first | ((with_reducible refine gDs (N := 3) rfl ?_); refine bEv ?hg (N := 3) ?hd (cs := #[.int .i64 a1_0, .string a1_1, .int .i64 a1_2, .string a1_3, .slice A1_4 l1_4.length c1_4]) (t := 40) ?hr ?_; (case hd => rfl); (case hg => rfl); (case hr => first | (go_simp; done) | (go_simp; rfl)); intro gb143 hg w6 hbox hb; have n0_ := AsZ.mk (tBl (by repeat (first | (with_reducible first | exact HB.out | apply aBl | apply pBd | apply dBl) | exact HB.out)) hb); have n1_ := AsZ.mk (hbox); have n2_ := AsZ.mk ((by rw [hg]; exact (zBl (by repeat (first | (with_reducible first | exact HB.out | apply aBl | apply pBd | apply dBl) | exact HB.out))) : w.heap.size ≤ gb143)); have n3_ := AsZ.mk ((by rw [hg]; exact (zBl (by repeat (first | (with_reducible first | exact HB.out | apply aBl | apply pBd | apply dBl) | exact HB.out))) : w.heap.size ≤ gb143)); clear HB; have HB := n0_; have BK143 := n1_; have GW143 := n2_; have GE143 := n3_; clear n0_ n1_ n2_ n3_; clear hb hbox hg) | ((with_reducible refine gDs (N := 4) rfl ?_); refine bEv ?hg (N := 4) ?hd (cs := #[.int .i64 0, .string (⟨#[]⟩ : ByteArray), .int .i64 0, .string (⟨#[]⟩ : ByteArray), .slice none 0 0]) (t := 40) ?hr ?_; (case hd => rfl); (case hg => rfl); (case hr => first | (go_simp; done) | (go_simp; rfl)); intro gb144 hg w7 hbox hb; have n0_ := AsZ.mk (bBl (g := gb143) (o := .cells #[.int .i64 a1_0, .string a1_1, .int .i64 a1_2, .string a1_3, .slice A1_4 l1_4.length c1_4] 40 (0, 0)) (by (with_reducible repeat first | apply bDn | apply bDr | apply bAl); exact BK143.out) hb); have n1_ := AsZ.mk (tBl (by repeat (first | (with_reducible first | exact HB.out | apply aBl | apply pBd | apply dBl | refine sBl ?_ GE143.out) | exact HB.out)) hb); have n2_ := AsZ.mk (hbox); have n3_ := AsZ.mk ((by rw [hg]; exact (zBl (by repeat (first | (with_reducible first | exact HB.out | apply aBl | apply pBd | apply dBl | refine sBl ?_ GE143.out) | exact HB.out))) : w.heap.size ≤ gb144)); have n4_ := AsZ.mk ((by rw [hg]; exact (zBl (by repeat (first | (with_reducible first | exact HB.out | apply aBl | apply pBd | apply dBl | refine sBl ?_ GE143.out) | exact HB.out))) : w.heap.size ≤ gb144)); have n5_ := AsZ.mk ((by rw [hg]; exact Nat.ne_of_lt (bLt (g := gb143) (o := .cells #[.int .i64 a1_0, .string a1_1, .int .i64 a1_2, .string a1_3, .slice A1_4 l1_4.length c1_4] 40 (0, 0)) (by (with_reducible repeat first | apply bDn | apply bDr | apply bAl); exact BK143.out)) : gb143 ≠ gb144)); have n6_ := AsZ.mk ((by rw [hg]; exact Nat.ne_of_gt (bLt (g := gb143) (o := .cells #[.int .i64 a1_0, .string a1_1, .int .i64 a1_2, .string a1_3, .slice A1_4 l1_4.length c1_4] 40 (0, 0)) (by (with_reducible repeat first | apply bDn | apply bDr | apply bAl); exact BK143.out)) : gb144 ≠ gb143)); clear BK143; clear HB; have BK143 := n0_; have HB := n1_; have BK144 := n2_; have GW144 := n3_; have GE144 := n4_; have NB143_144 := n5_; have NB144_143 := n6_; clear n0_ n1_ n2_ n3_ n4_ n5_ n6_; clear hb hbox hg; have hnb8 := NB143_144.out; have hnc8 := NB144_143.out; obtain ⟨hcz9_0, hcz9_1, hcz9_2, hcz9_3, hcz9_4⟩ := celN5 BK143.out; obtain ⟨hfz9_0, hfz9_1, hfz9_2, hfz9_3, hfz9_4⟩ := fzN5 BK143.out) | ((with_reducible refine gCa (f := 46) rfl ?_); refine gLl (some 7) rfl rfl Try.func46 (by kernel_rfl) rfl #[.slice A1_4 l1_4.length c1_4] rfl (by (try simp only [lsD, lsE, lsF]); first | done | rfl | (simp only [lsG, lsH]; rfl)) ?_; (with_reducible refine (bytes_Clone.calls _ _ l1_4 t145 _ ?side1 ?side2 A3.out).mono ?_); (case side1 => repeat (first | exact (Kd.C_below HR1_4.out HB.out) | (with_reducible refine Kd.C_alloc ?_ _) | (with_reducible refine Kd.C_drewN ?_ _) | (with_reducible refine Kd.C_drew ?_))); (case side2 => exact HC1_4.out); rintro e w10 ⟨v146, rfl, ho0, hb⟩; refine ⟨_, rfl, ?_⟩; have n0_ := AsZ.mk (Kd.R_lower ho0 (zBl (by repeat (first | (with_reducible first | exact HB.out | apply aBl | apply pBd | apply dBl | refine sBl ?_ GE143.out | refine sBl ?_ GE144.out) | exact HB.out)))); have n1_ := AsZ.mk (bBl (g := gb143) (o := .cells #[.int .i64 a1_0, .string a1_1, .int .i64 a1_2, .string a1_3, .slice A1_4 l1_4.length c1_4] 40 (0, 0)) (by (with_reducible repeat first | apply bDn | apply bDr | apply bAl); exact BK143.out) hb); have n2_ := AsZ.mk (bBl (g := gb144) (o := .cells #[.int .i64 0, .string (⟨#[]⟩ : ByteArray), .int .i64 0, .string (⟨#[]⟩ : ByteArray), .slice none 0 0] 40 (0, 0)) (by (with_reducible repeat first | apply bDn | apply bDr | apply bAl); exact BK144.out) hb); have n3_ := AsZ.mk (tBl (by repeat (first | (with_reducible first | exact HB.out | apply aBl | apply pBd | apply dBl | refine sBl ?_ GE143.out | refine sBl ?_ GE144.out) | exact HB.out)) hb); clear BK143; clear BK144; clear HB; have HO147 := n0_; have BK143 := n1_; have BK144 := n2_; have HB := n3_; clear n0_ n1_ n2_ n3_; (try clear hb); (try clear hb2); (try clear hk); (try clear hi); (try clear ho0); obtain ⟨Ao11, co11, eo11⟩ := Kd.R_slice HO147.out; subst eo11; obtain ⟨hcz12_0, hcz12_1, hcz12_2, hcz12_3, hcz12_4⟩ := celN5 BK143.out; obtain ⟨hfz12_0, hfz12_1, hfz12_2, hfz12_3, hfz12_4⟩ := fzN5 BK143.out) | ((with_reducible refine gCa (f := 40) rfl ?_); refine gLl (some 20) rfl rfl Try.func40 (by kernel_rfl) rfl #[] rfl (by (try simp only [lsD, lsE, lsF]); first | done | rfl | (simp only [lsG, lsH]; rfl)) ?_; (with_reducible refine (reply_Gone.calls  t148 t149 t150 t151 t152 _ A5.out).mono ?_); rintro e w13 ⟨v153, rfl, ho0, hb⟩; refine ⟨_, rfl, ?_⟩; have n0_ := AsZ.mk (Kd.R_elder' (by (with_reducible repeat (first | apply Kd.R_alloc | apply Kd.R_drewN | apply Kd.R_drew)); exact (Kd.R_mono (Kd.R_far (p := ⟨gb143, 4, none⟩) (Kd.R_types HO147.out BK143.out (by decide)) (fun _ hk => hk.2) (.slice Ao11 t145.length co11)) (fun _ h_ => h_.1))) (Kd.R_base ho0) hb); have n1_ := AsZ.mk (Kd.R_lower (Kd.R_new' ho0 (Kd.R_lt (by (with_reducible repeat (first | apply Kd.R_alloc | apply Kd.R_drewN | apply Kd.R_drew)); exact (Kd.R_mono (Kd.R_far (p := ⟨gb143, 4, none⟩) (Kd.R_types HO147.out BK143.out (by decide)) (fun _ hk => hk.2) (.slice Ao11 t145.length co11)) (fun _ h_ => h_.1))))) (zBl (by repeat (first | (with_reducible first | exact HB.out | apply aBl | apply pBd | apply dBl | refine sBl ?_ GE143.out | refine sBl ?_ GE144.out) | exact HB.out)))); have n2_ := AsZ.mk (bBl (g := gb143) (o := .cells #[.int .i64 a1_0, .string a1_1, .int .i64 a1_2, .string a1_3, .slice Ao11 t145.length co11] 40 (0, 0)) (by (with_reducible repeat first | apply bDn | apply bDr | apply bAl); refine bPu (cs := #[.int .i64 a1_0, .string a1_1, .int .i64 a1_2, .string a1_3, .slice A1_4 l1_4.length c1_4]) ?_ 4 _ rfl; (with_reducible repeat first | apply bDn | apply bDr | apply bAl); exact BK143.out) hb); have n3_ := AsZ.mk (bBl (g := gb144) (o := .cells #[.int .i64 0, .string (⟨#[]⟩ : ByteArray), .int .i64 0, .string (⟨#[]⟩ : ByteArray), .slice none 0 0] 40 (0, 0)) (by (with_reducible repeat first | apply bDn | apply bDr | apply bAl); refine bFr ?_ NB144_143.out _; (with_reducible repeat first | apply bDn | apply bDr | apply bAl); exact BK144.out) hb); have n4_ := AsZ.mk (tBl (by repeat (first | (with_reducible first | exact HB.out | apply aBl | apply pBd | apply dBl | refine sBl ?_ GE143.out | refine sBl ?_ GE144.out) | exact HB.out)) hb); clear HO147; clear BK143; clear BK144; clear HB; have HO147 := n0_; have HO154 := n1_; have BK143 := n2_; have BK144 := n3_; have HB := n4_; clear n0_ n1_ n2_ n3_ n4_; (try clear hb); (try clear hb2); (try clear hk); (try clear hi); (try clear ho0); obtain ⟨hcz14_0, hcz14_1, hcz14_2, hcz14_3, hcz14_4⟩ := celN5 BK144.out; obtain ⟨hfz14_0, hfz14_1, hfz14_2, hfz14_3, hfz14_4⟩ := fzN5 BK144.out; obtain ⟨Ao15, co15, eo15⟩ := Kd.R_slice HO154.out; subst eo15))
    refine bodyPost_ret (results_cell_row rfl _ _ gb144 40 #[.int .i64 t148, .string t149, .int .i64 t150, .string t151, .slice Ao15 t152.length co15] (0, 0) _ rfl (by (with_reducible repeat first | apply bDn | apply bDr | apply bAl); refine bPu (cs := #[.int .i64 t148, .string t149, .int .i64 t150, .string t151, .slice none 0 0]) ?_ 4 _ rfl; (with_reducible repeat first | apply bDn | apply bDr | apply bAl); refine bPu (cs := #[.int .i64 t148, .string t149, .int .i64 t150, .string (⟨#[]⟩ : ByteArray), .slice none 0 0]) ?_ 3 _ rfl; (with_reducible repeat first | apply bDn | apply bDr | apply bAl); refine bPu (cs := #[.int .i64 t148, .string t149, .int .i64 0, .string (⟨#[]⟩ : ByteArray), .slice none 0 0]) ?_ 2 _ rfl; (with_reducible repeat first | apply bDn | apply bDr | apply bAl); refine bPu (cs := #[.int .i64 t148, .string (⟨#[]⟩ : ByteArray), .int .i64 0, .string (⟨#[]⟩ : ByteArray), .slice none 0 0]) ?_ 1 _ rfl; (with_reducible repeat first | apply bDn | apply bDr | apply bAl); refine bPu (cs := #[.int .i64 0, .string (⟨#[]⟩ : ByteArray), .int .i64 0, .string (⟨#[]⟩ : ByteArray), .slice none 0 0]) ?_ 0 _ rfl; (with_reducible repeat first | apply bDn | apply bDr | apply bAl); exact BK144.out) Try.underlying40 rfl (by kernel_rfl)) rfl ?_
    exact ⟨_, by first | rfl | (simp [eWn, eWs] <;> rfl) | (simp [*, eWn, eWs] <;> rfl), by (with_reducible repeat (first | apply Kd.R_alloc | apply Kd.R_drewN | apply Kd.R_drew)); exact Kd.R_mono (Kd.R_far (p := ⟨gb144, 4, none⟩) (Kd.R_far (p := ⟨gb144, 3, none⟩) (Kd.R_far (p := ⟨gb144, 2, none⟩) (Kd.R_far (p := ⟨gb144, 1, none⟩) (Kd.R_far (p := ⟨gb144, 0, none⟩) (Kd.R_types HO154.out BK144.out (by decide)) (fun _ hk => hk.2) (.int .i64 t148)) (fun _ hk => hk.2) (.string t149)) (fun _ hk => hk.2) (.int .i64 t150)) (fun _ hk => hk.2) (.string t151)) (fun _ hk => hk.2) (.slice Ao15 t152.length co15)) (fun _ hk => trivial), by repeat (first | (with_reducible first | exact HB.out | apply aBl | apply pBd | apply dBl | refine sBl ?_ GE143.out | refine sBl ?_ GE144.out) | exact HB.out)⟩
  · rw [if_neg c4] at H
    have c4b0 : (a0 == 5) = false := beq_eq_false_iff_ne.mpr c4
    have c4b1 : (a0 != 5) = true := bne_iff_ne.mpr c4
    by_cases c16 : a0 = 1
    · rw [if_pos c16] at H
      have c16b0 : (a0 == 1) = true := beq_iff_eq.mpr c16
      have c16b1 : (a0 != 1) = false := bne_eq_false_iff_eq.mpr c16
      clear c16
      replace H := Option.bind_eq_some_iff.mp H
      obtain ⟨⟨t159, t160, t161, t162, t163⟩, A170, H⟩ := H
      replace H : (some (t159, t160, t161, t162, t163)) = some (r1, r2, r3, r4, r5) := H
      have A17 := AsZ.mk A170
      clear A170
      simp only [Option.some.injEq, Prod.mk.injEq] at H
      obtain ⟨rfl, rfl, rfl, rfl, rfl⟩ := H
      go_enter Try.func30, Try.ntmps30
      go_wp2_with (first | ((with_reducible refine gDs (N := 3) rfl ?_); refine bEv ?hg (N := 3) ?hd (cs := #[.int .i64 a1_0, .string a1_1, .int .i64 a1_2, .string a1_3, .slice A1_4 l1_4.length c1_4]) (t := 40) ?hr ?_; (case hd => rfl); (case hg => rfl); (case hr => first | (go_simp; done) | (go_simp; rfl)); intro gb143 hg w18 hbox hb; have n0_ := AsZ.mk (tBl (by repeat (first | (with_reducible first | exact HB.out | apply aBl | apply pBd | apply dBl) | exact HB.out)) hb); have n1_ := AsZ.mk (hbox); have n2_ := AsZ.mk ((by rw [hg]; exact (zBl (by repeat (first | (with_reducible first | exact HB.out | apply aBl | apply pBd | apply dBl) | exact HB.out))) : w.heap.size ≤ gb143)); have n3_ := AsZ.mk ((by rw [hg]; exact (zBl (by repeat (first | (with_reducible first | exact HB.out | apply aBl | apply pBd | apply dBl) | exact HB.out))) : w.heap.size ≤ gb143)); clear HB; have HB := n0_; have BK143 := n1_; have GW143 := n2_; have GE143 := n3_; clear n0_ n1_ n2_ n3_; clear hb hbox hg) | ((with_reducible refine gDs (N := 4) rfl ?_); refine bEv ?hg (N := 4) ?hd (cs := #[.int .i64 0, .string (⟨#[]⟩ : ByteArray), .int .i64 0, .string (⟨#[]⟩ : ByteArray), .slice none 0 0]) (t := 40) ?hr ?_; (case hd => rfl); (case hg => rfl); (case hr => first | (go_simp; done) | (go_simp; rfl)); intro gb144 hg w19 hbox hb; have n0_ := AsZ.mk (bBl (g := gb143) (o := .cells #[.int .i64 a1_0, .string a1_1, .int .i64 a1_2, .string a1_3, .slice A1_4 l1_4.length c1_4] 40 (0, 0)) (by (with_reducible repeat first | apply bDn | apply bDr | apply bAl); exact BK143.out) hb); have n1_ := AsZ.mk (tBl (by repeat (first | (with_reducible first | exact HB.out | apply aBl | apply pBd | apply dBl | refine sBl ?_ GE143.out) | exact HB.out)) hb); have n2_ := AsZ.mk (hbox); have n3_ := AsZ.mk ((by rw [hg]; exact (zBl (by repeat (first | (with_reducible first | exact HB.out | apply aBl | apply pBd | apply dBl | refine sBl ?_ GE143.out) | exact HB.out))) : w.heap.size ≤ gb144)); have n4_ := AsZ.mk ((by rw [hg]; exact (zBl (by repeat (first | (with_reducible first | exact HB.out | apply aBl | apply pBd | apply dBl | refine sBl ?_ GE143.out) | exact HB.out))) : w.heap.size ≤ gb144)); have n5_ := AsZ.mk ((by rw [hg]; exact Nat.ne_of_lt (bLt (g := gb143) (o := .cells #[.int .i64 a1_0, .string a1_1, .int .i64 a1_2, .string a1_3, .slice A1_4 l1_4.length c1_4] 40 (0, 0)) (by (with_reducible repeat first | apply bDn | apply bDr | apply bAl); exact BK143.out)) : gb143 ≠ gb144)); have n6_ := AsZ.mk ((by rw [hg]; exact Nat.ne_of_gt (bLt (g := gb143) (o := .cells #[.int .i64 a1_0, .string a1_1, .int .i64 a1_2, .string a1_3, .slice A1_4 l1_4.length c1_4] 40 (0, 0)) (by (with_reducible repeat first | apply bDn | apply bDr | apply bAl); exact BK143.out)) : gb144 ≠ gb143)); clear BK143; clear HB; have BK143 := n0_; have HB := n1_; have BK144 := n2_; have GW144 := n3_; have GE144 := n4_; have NB143_144 := n5_; have NB144_143 := n6_; clear n0_ n1_ n2_ n3_ n4_ n5_ n6_; clear hb hbox hg; have hnb20 := NB143_144.out; have hnc20 := NB144_143.out; obtain ⟨hcz21_0, hcz21_1, hcz21_2, hcz21_3, hcz21_4⟩ := celN5 BK143.out; obtain ⟨hfz21_0, hfz21_1, hfz21_2, hfz21_3, hfz21_4⟩ := fzN5 BK143.out) | ((with_reducible refine gCa (f := 46) rfl ?_); refine gLl (some 7) rfl rfl Try.func46 (by kernel_rfl) rfl #[.slice A1_4 l1_4.length c1_4] rfl (by (try simp only [lsD, lsE, lsF]); first | done | rfl | (simp only [lsG, lsH]; rfl)) ?_; (with_reducible refine (bytes_Clone.calls _ _ l1_4 t145 _ ?side1 ?side2 A3.out).mono ?_); (case side1 => repeat (first | exact (Kd.C_below HR1_4.out HB.out) | (with_reducible refine Kd.C_alloc ?_ _) | (with_reducible refine Kd.C_drewN ?_ _) | (with_reducible refine Kd.C_drew ?_))); (case side2 => exact HC1_4.out); rintro e w22 ⟨v146, rfl, ho0, hb⟩; refine ⟨_, rfl, ?_⟩; have n0_ := AsZ.mk (Kd.R_lower ho0 (zBl (by repeat (first | (with_reducible first | exact HB.out | apply aBl | apply pBd | apply dBl | refine sBl ?_ GE143.out | refine sBl ?_ GE144.out) | exact HB.out)))); have n1_ := AsZ.mk (bBl (g := gb143) (o := .cells #[.int .i64 a1_0, .string a1_1, .int .i64 a1_2, .string a1_3, .slice A1_4 l1_4.length c1_4] 40 (0, 0)) (by (with_reducible repeat first | apply bDn | apply bDr | apply bAl); exact BK143.out) hb); have n2_ := AsZ.mk (bBl (g := gb144) (o := .cells #[.int .i64 0, .string (⟨#[]⟩ : ByteArray), .int .i64 0, .string (⟨#[]⟩ : ByteArray), .slice none 0 0] 40 (0, 0)) (by (with_reducible repeat first | apply bDn | apply bDr | apply bAl); exact BK144.out) hb); have n3_ := AsZ.mk (tBl (by repeat (first | (with_reducible first | exact HB.out | apply aBl | apply pBd | apply dBl | refine sBl ?_ GE143.out | refine sBl ?_ GE144.out) | exact HB.out)) hb); clear BK143; clear BK144; clear HB; have HO147 := n0_; have BK143 := n1_; have BK144 := n2_; have HB := n3_; clear n0_ n1_ n2_ n3_; (try clear hb); (try clear hb2); (try clear hk); (try clear hi); (try clear ho0); obtain ⟨Ao23, co23, eo23⟩ := Kd.R_slice HO147.out; subst eo23; obtain ⟨hcz24_0, hcz24_1, hcz24_2, hcz24_3, hcz24_4⟩ := celN5 BK143.out; obtain ⟨hfz24_0, hfz24_1, hfz24_2, hfz24_3, hfz24_4⟩ := fzN5 BK143.out) | ((with_reducible refine gCa (f := 26) rfl ?_); refine gLl (some 21) rfl rfl Try.func26 (by kernel_rfl) rfl #[] rfl (by (try simp only [lsD, lsE, lsF]); first | done | rfl | (simp only [lsG, lsH]; rfl)) ?_; (with_reducible refine (reply_Down.calls  t159 t160 t161 t162 t163 _ A17.out).mono ?_); rintro e w25 ⟨v164, rfl, ho0, hb⟩; refine ⟨_, rfl, ?_⟩; have n0_ := AsZ.mk (Kd.R_elder' (by (with_reducible repeat (first | apply Kd.R_alloc | apply Kd.R_drewN | apply Kd.R_drew)); exact (Kd.R_mono (Kd.R_far (p := ⟨gb143, 4, none⟩) (Kd.R_types HO147.out BK143.out (by decide)) (fun _ hk => hk.2) (.slice Ao23 t145.length co23)) (fun _ h_ => h_.1))) (Kd.R_base ho0) hb); have n1_ := AsZ.mk (Kd.R_lower (Kd.R_new' ho0 (Kd.R_lt (by (with_reducible repeat (first | apply Kd.R_alloc | apply Kd.R_drewN | apply Kd.R_drew)); exact (Kd.R_mono (Kd.R_far (p := ⟨gb143, 4, none⟩) (Kd.R_types HO147.out BK143.out (by decide)) (fun _ hk => hk.2) (.slice Ao23 t145.length co23)) (fun _ h_ => h_.1))))) (zBl (by repeat (first | (with_reducible first | exact HB.out | apply aBl | apply pBd | apply dBl | refine sBl ?_ GE143.out | refine sBl ?_ GE144.out) | exact HB.out)))); have n2_ := AsZ.mk (bBl (g := gb143) (o := .cells #[.int .i64 a1_0, .string a1_1, .int .i64 a1_2, .string a1_3, .slice Ao23 t145.length co23] 40 (0, 0)) (by (with_reducible repeat first | apply bDn | apply bDr | apply bAl); refine bPu (cs := #[.int .i64 a1_0, .string a1_1, .int .i64 a1_2, .string a1_3, .slice A1_4 l1_4.length c1_4]) ?_ 4 _ rfl; (with_reducible repeat first | apply bDn | apply bDr | apply bAl); exact BK143.out) hb); have n3_ := AsZ.mk (bBl (g := gb144) (o := .cells #[.int .i64 0, .string (⟨#[]⟩ : ByteArray), .int .i64 0, .string (⟨#[]⟩ : ByteArray), .slice none 0 0] 40 (0, 0)) (by (with_reducible repeat first | apply bDn | apply bDr | apply bAl); refine bFr ?_ NB144_143.out _; (with_reducible repeat first | apply bDn | apply bDr | apply bAl); exact BK144.out) hb); have n4_ := AsZ.mk (tBl (by repeat (first | (with_reducible first | exact HB.out | apply aBl | apply pBd | apply dBl | refine sBl ?_ GE143.out | refine sBl ?_ GE144.out) | exact HB.out)) hb); clear HO147; clear BK143; clear BK144; clear HB; have HO147 := n0_; have HO165 := n1_; have BK143 := n2_; have BK144 := n3_; have HB := n4_; clear n0_ n1_ n2_ n3_ n4_; (try clear hb); (try clear hb2); (try clear hk); (try clear hi); (try clear ho0); obtain ⟨hcz26_0, hcz26_1, hcz26_2, hcz26_3, hcz26_4⟩ := celN5 BK144.out; obtain ⟨hfz26_0, hfz26_1, hfz26_2, hfz26_3, hfz26_4⟩ := fzN5 BK144.out; obtain ⟨Ao27, co27, eo27⟩ := Kd.R_slice HO165.out; subst eo27))
      refine bodyPost_ret (results_cell_row rfl _ _ gb144 40 #[.int .i64 t159, .string t160, .int .i64 t161, .string t162, .slice Ao27 t163.length co27] (0, 0) _ rfl (by (with_reducible repeat first | apply bDn | apply bDr | apply bAl); refine bPu (cs := #[.int .i64 t159, .string t160, .int .i64 t161, .string t162, .slice none 0 0]) ?_ 4 _ rfl; (with_reducible repeat first | apply bDn | apply bDr | apply bAl); refine bPu (cs := #[.int .i64 t159, .string t160, .int .i64 t161, .string (⟨#[]⟩ : ByteArray), .slice none 0 0]) ?_ 3 _ rfl; (with_reducible repeat first | apply bDn | apply bDr | apply bAl); refine bPu (cs := #[.int .i64 t159, .string t160, .int .i64 0, .string (⟨#[]⟩ : ByteArray), .slice none 0 0]) ?_ 2 _ rfl; (with_reducible repeat first | apply bDn | apply bDr | apply bAl); refine bPu (cs := #[.int .i64 t159, .string (⟨#[]⟩ : ByteArray), .int .i64 0, .string (⟨#[]⟩ : ByteArray), .slice none 0 0]) ?_ 1 _ rfl; (with_reducible repeat first | apply bDn | apply bDr | apply bAl); refine bPu (cs := #[.int .i64 0, .string (⟨#[]⟩ : ByteArray), .int .i64 0, .string (⟨#[]⟩ : ByteArray), .slice none 0 0]) ?_ 0 _ rfl; (with_reducible repeat first | apply bDn | apply bDr | apply bAl); exact BK144.out) Try.underlying40 rfl (by kernel_rfl)) rfl ?_
      exact ⟨_, by first | rfl | (simp [eWn, eWs] <;> rfl) | (simp [*, eWn, eWs] <;> rfl), by (with_reducible repeat (first | apply Kd.R_alloc | apply Kd.R_drewN | apply Kd.R_drew)); exact Kd.R_mono (Kd.R_far (p := ⟨gb144, 4, none⟩) (Kd.R_far (p := ⟨gb144, 3, none⟩) (Kd.R_far (p := ⟨gb144, 2, none⟩) (Kd.R_far (p := ⟨gb144, 1, none⟩) (Kd.R_far (p := ⟨gb144, 0, none⟩) (Kd.R_types HO165.out BK144.out (by decide)) (fun _ hk => hk.2) (.int .i64 t159)) (fun _ hk => hk.2) (.string t160)) (fun _ hk => hk.2) (.int .i64 t161)) (fun _ hk => hk.2) (.string t162)) (fun _ hk => hk.2) (.slice Ao27 t163.length co27)) (fun _ hk => trivial), by repeat (first | (with_reducible first | exact HB.out | apply aBl | apply pBd | apply dBl | refine sBl ?_ GE143.out | refine sBl ?_ GE144.out) | exact HB.out)⟩
    · rw [if_neg c16] at H
      have c16b0 : (a0 == 1) = false := beq_eq_false_iff_ne.mpr c16
      have c16b1 : (a0 != 1) = true := bne_iff_ne.mpr c16
      by_cases c28 : a0 = 4
      · rw [if_pos c28] at H
        have c28b0 : (a0 == 4) = true := beq_iff_eq.mpr c28
        have c28b1 : (a0 != 4) = false := bne_eq_false_iff_eq.mpr c28
        clear c28
        by_cases c29 : a1_1.size + 1 ≤ 9223372036854775807
        · rw [if_pos c29] at H
          have c29b0 := eq_true c29
          have c29b1 : decide (a1_1.size + 1 ≤ 9223372036854775807) = true := decide_eq_true c29
          try have c29b2 : (9223372036854775807 < a1_1.size + 1) = False := eq_false (Nat.not_lt.2 c29)
          simp only [Option.some.injEq, Prod.mk.injEq] at H
          obtain ⟨rfl, rfl, rfl, rfl, rfl⟩ := H
          go_enter Try.func30, Try.ntmps30
          go_wp2_with (first | ((with_reducible refine gDs (N := 3) rfl ?_); refine bEv ?hg (N := 3) ?hd (cs := #[.int .i64 a1_0, .string a1_1, .int .i64 a1_2, .string a1_3, .slice A1_4 l1_4.length c1_4]) (t := 40) ?hr ?_; (case hd => rfl); (case hg => rfl); (case hr => first | (go_simp; done) | (go_simp; rfl)); intro gb143 hg w30 hbox hb; have n0_ := AsZ.mk (tBl (by repeat (first | (with_reducible first | exact HB.out | apply aBl | apply pBd | apply dBl) | exact HB.out)) hb); have n1_ := AsZ.mk (hbox); have n2_ := AsZ.mk ((by rw [hg]; exact (zBl (by repeat (first | (with_reducible first | exact HB.out | apply aBl | apply pBd | apply dBl) | exact HB.out))) : w.heap.size ≤ gb143)); have n3_ := AsZ.mk ((by rw [hg]; exact (zBl (by repeat (first | (with_reducible first | exact HB.out | apply aBl | apply pBd | apply dBl) | exact HB.out))) : w.heap.size ≤ gb143)); clear HB; have HB := n0_; have BK143 := n1_; have GW143 := n2_; have GE143 := n3_; clear n0_ n1_ n2_ n3_; clear hb hbox hg) | ((with_reducible refine gDs (N := 4) rfl ?_); refine bEv ?hg (N := 4) ?hd (cs := #[.int .i64 0, .string (⟨#[]⟩ : ByteArray), .int .i64 0, .string (⟨#[]⟩ : ByteArray), .slice none 0 0]) (t := 40) ?hr ?_; (case hd => rfl); (case hg => rfl); (case hr => first | (go_simp; done) | (go_simp; rfl)); intro gb144 hg w31 hbox hb; have n0_ := AsZ.mk (bBl (g := gb143) (o := .cells #[.int .i64 a1_0, .string a1_1, .int .i64 a1_2, .string a1_3, .slice A1_4 l1_4.length c1_4] 40 (0, 0)) (by (with_reducible repeat first | apply bDn | apply bDr | apply bAl); exact BK143.out) hb); have n1_ := AsZ.mk (tBl (by repeat (first | (with_reducible first | exact HB.out | apply aBl | apply pBd | apply dBl | refine sBl ?_ GE143.out) | exact HB.out)) hb); have n2_ := AsZ.mk (hbox); have n3_ := AsZ.mk ((by rw [hg]; exact (zBl (by repeat (first | (with_reducible first | exact HB.out | apply aBl | apply pBd | apply dBl | refine sBl ?_ GE143.out) | exact HB.out))) : w.heap.size ≤ gb144)); have n4_ := AsZ.mk ((by rw [hg]; exact (zBl (by repeat (first | (with_reducible first | exact HB.out | apply aBl | apply pBd | apply dBl | refine sBl ?_ GE143.out) | exact HB.out))) : w.heap.size ≤ gb144)); have n5_ := AsZ.mk ((by rw [hg]; exact Nat.ne_of_lt (bLt (g := gb143) (o := .cells #[.int .i64 a1_0, .string a1_1, .int .i64 a1_2, .string a1_3, .slice A1_4 l1_4.length c1_4] 40 (0, 0)) (by (with_reducible repeat first | apply bDn | apply bDr | apply bAl); exact BK143.out)) : gb143 ≠ gb144)); have n6_ := AsZ.mk ((by rw [hg]; exact Nat.ne_of_gt (bLt (g := gb143) (o := .cells #[.int .i64 a1_0, .string a1_1, .int .i64 a1_2, .string a1_3, .slice A1_4 l1_4.length c1_4] 40 (0, 0)) (by (with_reducible repeat first | apply bDn | apply bDr | apply bAl); exact BK143.out)) : gb144 ≠ gb143)); clear BK143; clear HB; have BK143 := n0_; have HB := n1_; have BK144 := n2_; have GW144 := n3_; have GE144 := n4_; have NB143_144 := n5_; have NB144_143 := n6_; clear n0_ n1_ n2_ n3_ n4_ n5_ n6_; clear hb hbox hg; have hnb32 := NB143_144.out; have hnc32 := NB144_143.out; obtain ⟨hcz33_0, hcz33_1, hcz33_2, hcz33_3, hcz33_4⟩ := celN5 BK143.out; obtain ⟨hfz33_0, hfz33_1, hfz33_2, hfz33_3, hfz33_4⟩ := fzN5 BK143.out) | ((with_reducible refine gCa (f := 46) rfl ?_); refine gLl (some 7) rfl rfl Try.func46 (by kernel_rfl) rfl #[.slice A1_4 l1_4.length c1_4] rfl (by (try simp only [lsD, lsE, lsF]); first | done | rfl | (simp only [lsG, lsH]; rfl)) ?_; (with_reducible refine (bytes_Clone.calls _ _ l1_4 t145 _ ?side1 ?side2 A3.out).mono ?_); (case side1 => repeat (first | exact (Kd.C_below HR1_4.out HB.out) | (with_reducible refine Kd.C_alloc ?_ _) | (with_reducible refine Kd.C_drewN ?_ _) | (with_reducible refine Kd.C_drew ?_))); (case side2 => exact HC1_4.out); rintro e w34 ⟨v146, rfl, ho0, hb⟩; refine ⟨_, rfl, ?_⟩; have n0_ := AsZ.mk (Kd.R_lower ho0 (zBl (by repeat (first | (with_reducible first | exact HB.out | apply aBl | apply pBd | apply dBl | refine sBl ?_ GE143.out | refine sBl ?_ GE144.out) | exact HB.out)))); have n1_ := AsZ.mk (bBl (g := gb143) (o := .cells #[.int .i64 a1_0, .string a1_1, .int .i64 a1_2, .string a1_3, .slice A1_4 l1_4.length c1_4] 40 (0, 0)) (by (with_reducible repeat first | apply bDn | apply bDr | apply bAl); exact BK143.out) hb); have n2_ := AsZ.mk (bBl (g := gb144) (o := .cells #[.int .i64 0, .string (⟨#[]⟩ : ByteArray), .int .i64 0, .string (⟨#[]⟩ : ByteArray), .slice none 0 0] 40 (0, 0)) (by (with_reducible repeat first | apply bDn | apply bDr | apply bAl); exact BK144.out) hb); have n3_ := AsZ.mk (tBl (by repeat (first | (with_reducible first | exact HB.out | apply aBl | apply pBd | apply dBl | refine sBl ?_ GE143.out | refine sBl ?_ GE144.out) | exact HB.out)) hb); clear BK143; clear BK144; clear HB; have HO147 := n0_; have BK143 := n1_; have BK144 := n2_; have HB := n3_; clear n0_ n1_ n2_ n3_; (try clear hb); (try clear hb2); (try clear hk); (try clear hi); (try clear ho0); obtain ⟨Ao35, co35, eo35⟩ := Kd.R_slice HO147.out; subst eo35; obtain ⟨hcz36_0, hcz36_1, hcz36_2, hcz36_3, hcz36_4⟩ := celN5 BK143.out; obtain ⟨hfz36_0, hfz36_1, hfz36_2, hfz36_3, hfz36_4⟩ := fzN5 BK143.out; obtain ⟨hcz37_0, hcz37_1, hcz37_2, hcz37_3, hcz37_4⟩ := celN5 BK144.out; obtain ⟨hfz37_0, hfz37_1, hfz37_2, hfz37_3, hfz37_4⟩ := fzN5 BK144.out))
          refine bodyPost_ret (results_cell_row rfl _ _ gb144 40 #[.int .i64 a1_0, .string (a1_1 ++ (⟨#[34]⟩ : ByteArray)), .int .i64 a1_2, .string a1_3, .slice Ao35 t145.length co35] (0, 0) _ rfl (by (with_reducible repeat first | apply bDn | apply bDr | apply bAl); refine bPu (cs := #[.int .i64 a1_0, .string (a1_1 ++ (⟨#[34]⟩ : ByteArray)), .int .i64 a1_2, .string a1_3, .slice none 0 0]) ?_ 4 _ rfl; (with_reducible repeat first | apply bDn | apply bDr | apply bAl); refine bPu (cs := #[.int .i64 a1_0, .string (a1_1 ++ (⟨#[34]⟩ : ByteArray)), .int .i64 a1_2, .string (⟨#[]⟩ : ByteArray), .slice none 0 0]) ?_ 3 _ rfl; (with_reducible repeat first | apply bDn | apply bDr | apply bAl); refine bPu (cs := #[.int .i64 a1_0, .string (a1_1 ++ (⟨#[34]⟩ : ByteArray)), .int .i64 0, .string (⟨#[]⟩ : ByteArray), .slice none 0 0]) ?_ 2 _ rfl; (with_reducible repeat first | apply bDn | apply bDr | apply bAl); refine bPu (cs := #[.int .i64 a1_0, .string (⟨#[]⟩ : ByteArray), .int .i64 0, .string (⟨#[]⟩ : ByteArray), .slice none 0 0]) ?_ 1 _ rfl; (with_reducible repeat first | apply bDn | apply bDr | apply bAl); refine bPu (cs := #[.int .i64 0, .string (⟨#[]⟩ : ByteArray), .int .i64 0, .string (⟨#[]⟩ : ByteArray), .slice none 0 0]) ?_ 0 _ rfl; (with_reducible repeat first | apply bDn | apply bDr | apply bAl); refine bFr ?_ NB144_143.out _; (with_reducible repeat first | apply bDn | apply bDr | apply bAl); refine bFr ?_ NB144_143.out _; (with_reducible repeat first | apply bDn | apply bDr | apply bAl); exact BK144.out) Try.underlying40 rfl (by kernel_rfl)) rfl ?_
          exact ⟨_, by first | rfl | (simp [eWn, eWs] <;> rfl) | (simp [*, eWn, eWs] <;> rfl), by (with_reducible repeat (first | apply Kd.R_alloc | apply Kd.R_drewN | apply Kd.R_drew)); exact Kd.R_mono (Kd.R_far (p := ⟨gb144, 4, none⟩) (Kd.R_far (p := ⟨gb144, 3, none⟩) (Kd.R_far (p := ⟨gb144, 2, none⟩) (Kd.R_far (p := ⟨gb144, 1, none⟩) (Kd.R_far (p := ⟨gb144, 0, none⟩) (Kd.R_far (p := ⟨gb143, 1, none⟩) (Kd.R_far (p := ⟨gb143, 4, none⟩) (Kd.R_types (Kd.R_types HO147.out BK143.out (by decide)) BK144.out (by decide)) (fun _ hk => hk.1.2) (.slice Ao35 t145.length co35)) (fun _ hk => hk.1.2) (.string (a1_1 ++ (⟨#[34]⟩ : ByteArray)))) (fun _ hk => hk.2) (.int .i64 a1_0)) (fun _ hk => hk.2) (.string (a1_1 ++ (⟨#[34]⟩ : ByteArray)))) (fun _ hk => hk.2) (.int .i64 a1_2)) (fun _ hk => hk.2) (.string a1_3)) (fun _ hk => hk.2) (.slice Ao35 t145.length co35)) (fun _ hk => trivial), by repeat (first | (with_reducible first | exact HB.out | apply aBl | apply pBd | apply dBl | refine sBl ?_ GE143.out | refine sBl ?_ GE144.out) | exact HB.out)⟩
        · rw [if_neg c29] at H
          exact absurd H (by simp)
      · rw [if_neg c28] at H
        have c28b0 : (a0 == 4) = false := beq_eq_false_iff_ne.mpr c28
        have c28b1 : (a0 != 4) = true := bne_iff_ne.mpr c28
        by_cases c38 : a0 = 3
        · rw [if_pos c38] at H
          have c38b0 : (a0 == 3) = true := beq_iff_eq.mpr c38
          have c38b1 : (a0 != 3) = false := bne_eq_false_iff_eq.mpr c38
          clear c38
          replace H := Option.bind_eq_some_iff.mp H
          obtain ⟨t155, A390, H⟩ := H
          replace H : (some (a1_0, a1_1, a1_2, t155, t145)) = some (r1, r2, r3, r4, r5) := H
          have A39 := AsZ.mk A390
          clear A390
          simp only [Option.some.injEq, Prod.mk.injEq] at H
          obtain ⟨rfl, rfl, rfl, rfl, rfl⟩ := H
          go_enter Try.func30, Try.ntmps30
          go_wp2_with (first | ((with_reducible refine gDs (N := 3) rfl ?_); refine bEv ?hg (N := 3) ?hd (cs := #[.int .i64 a1_0, .string a1_1, .int .i64 a1_2, .string a1_3, .slice A1_4 l1_4.length c1_4]) (t := 40) ?hr ?_; (case hd => rfl); (case hg => rfl); (case hr => first | (go_simp; done) | (go_simp; rfl)); intro gb143 hg w40 hbox hb; have n0_ := AsZ.mk (tBl (by repeat (first | (with_reducible first | exact HB.out | apply aBl | apply pBd | apply dBl) | exact HB.out)) hb); have n1_ := AsZ.mk (hbox); have n2_ := AsZ.mk ((by rw [hg]; exact (zBl (by repeat (first | (with_reducible first | exact HB.out | apply aBl | apply pBd | apply dBl) | exact HB.out))) : w.heap.size ≤ gb143)); have n3_ := AsZ.mk ((by rw [hg]; exact (zBl (by repeat (first | (with_reducible first | exact HB.out | apply aBl | apply pBd | apply dBl) | exact HB.out))) : w.heap.size ≤ gb143)); clear HB; have HB := n0_; have BK143 := n1_; have GW143 := n2_; have GE143 := n3_; clear n0_ n1_ n2_ n3_; clear hb hbox hg) | ((with_reducible refine gDs (N := 4) rfl ?_); refine bEv ?hg (N := 4) ?hd (cs := #[.int .i64 0, .string (⟨#[]⟩ : ByteArray), .int .i64 0, .string (⟨#[]⟩ : ByteArray), .slice none 0 0]) (t := 40) ?hr ?_; (case hd => rfl); (case hg => rfl); (case hr => first | (go_simp; done) | (go_simp; rfl)); intro gb144 hg w41 hbox hb; have n0_ := AsZ.mk (bBl (g := gb143) (o := .cells #[.int .i64 a1_0, .string a1_1, .int .i64 a1_2, .string a1_3, .slice A1_4 l1_4.length c1_4] 40 (0, 0)) (by (with_reducible repeat first | apply bDn | apply bDr | apply bAl); exact BK143.out) hb); have n1_ := AsZ.mk (tBl (by repeat (first | (with_reducible first | exact HB.out | apply aBl | apply pBd | apply dBl | refine sBl ?_ GE143.out) | exact HB.out)) hb); have n2_ := AsZ.mk (hbox); have n3_ := AsZ.mk ((by rw [hg]; exact (zBl (by repeat (first | (with_reducible first | exact HB.out | apply aBl | apply pBd | apply dBl | refine sBl ?_ GE143.out) | exact HB.out))) : w.heap.size ≤ gb144)); have n4_ := AsZ.mk ((by rw [hg]; exact (zBl (by repeat (first | (with_reducible first | exact HB.out | apply aBl | apply pBd | apply dBl | refine sBl ?_ GE143.out) | exact HB.out))) : w.heap.size ≤ gb144)); have n5_ := AsZ.mk ((by rw [hg]; exact Nat.ne_of_lt (bLt (g := gb143) (o := .cells #[.int .i64 a1_0, .string a1_1, .int .i64 a1_2, .string a1_3, .slice A1_4 l1_4.length c1_4] 40 (0, 0)) (by (with_reducible repeat first | apply bDn | apply bDr | apply bAl); exact BK143.out)) : gb143 ≠ gb144)); have n6_ := AsZ.mk ((by rw [hg]; exact Nat.ne_of_gt (bLt (g := gb143) (o := .cells #[.int .i64 a1_0, .string a1_1, .int .i64 a1_2, .string a1_3, .slice A1_4 l1_4.length c1_4] 40 (0, 0)) (by (with_reducible repeat first | apply bDn | apply bDr | apply bAl); exact BK143.out)) : gb144 ≠ gb143)); clear BK143; clear HB; have BK143 := n0_; have HB := n1_; have BK144 := n2_; have GW144 := n3_; have GE144 := n4_; have NB143_144 := n5_; have NB144_143 := n6_; clear n0_ n1_ n2_ n3_ n4_ n5_ n6_; clear hb hbox hg; have hnb42 := NB143_144.out; have hnc42 := NB144_143.out; obtain ⟨hcz43_0, hcz43_1, hcz43_2, hcz43_3, hcz43_4⟩ := celN5 BK143.out; obtain ⟨hfz43_0, hfz43_1, hfz43_2, hfz43_3, hfz43_4⟩ := fzN5 BK143.out) | ((with_reducible refine gCa (f := 46) rfl ?_); refine gLl (some 7) rfl rfl Try.func46 (by kernel_rfl) rfl #[.slice A1_4 l1_4.length c1_4] rfl (by (try simp only [lsD, lsE, lsF]); first | done | rfl | (simp only [lsG, lsH]; rfl)) ?_; (with_reducible refine (bytes_Clone.calls _ _ l1_4 t145 _ ?side1 ?side2 A3.out).mono ?_); (case side1 => repeat (first | exact (Kd.C_below HR1_4.out HB.out) | (with_reducible refine Kd.C_alloc ?_ _) | (with_reducible refine Kd.C_drewN ?_ _) | (with_reducible refine Kd.C_drew ?_))); (case side2 => exact HC1_4.out); rintro e w44 ⟨v146, rfl, ho0, hb⟩; refine ⟨_, rfl, ?_⟩; have n0_ := AsZ.mk (Kd.R_lower ho0 (zBl (by repeat (first | (with_reducible first | exact HB.out | apply aBl | apply pBd | apply dBl | refine sBl ?_ GE143.out | refine sBl ?_ GE144.out) | exact HB.out)))); have n1_ := AsZ.mk (bBl (g := gb143) (o := .cells #[.int .i64 a1_0, .string a1_1, .int .i64 a1_2, .string a1_3, .slice A1_4 l1_4.length c1_4] 40 (0, 0)) (by (with_reducible repeat first | apply bDn | apply bDr | apply bAl); exact BK143.out) hb); have n2_ := AsZ.mk (bBl (g := gb144) (o := .cells #[.int .i64 0, .string (⟨#[]⟩ : ByteArray), .int .i64 0, .string (⟨#[]⟩ : ByteArray), .slice none 0 0] 40 (0, 0)) (by (with_reducible repeat first | apply bDn | apply bDr | apply bAl); exact BK144.out) hb); have n3_ := AsZ.mk (tBl (by repeat (first | (with_reducible first | exact HB.out | apply aBl | apply pBd | apply dBl | refine sBl ?_ GE143.out | refine sBl ?_ GE144.out) | exact HB.out)) hb); clear BK143; clear BK144; clear HB; have HO147 := n0_; have BK143 := n1_; have BK144 := n2_; have HB := n3_; clear n0_ n1_ n2_ n3_; (try clear hb); (try clear hb2); (try clear hk); (try clear hi); (try clear ho0); obtain ⟨Ao45, co45, eo45⟩ := Kd.R_slice HO147.out; subst eo45; obtain ⟨hcz46_0, hcz46_1, hcz46_2, hcz46_3, hcz46_4⟩ := celN5 BK143.out; obtain ⟨hfz46_0, hfz46_1, hfz46_2, hfz46_3, hfz46_4⟩ := fzN5 BK143.out) | ((with_reducible refine gCa (f := 47) rfl ?_); refine gLl (some 28) rfl rfl Try.func47 (by kernel_rfl) rfl #[.string a1_3] rfl (by (try simp only [lsD, lsE, lsF]); first | done | rfl | (simp only [lsG, lsH]; rfl)) ?_; (with_reducible refine (reply_shifted.calls k a1_3 t155 _ A39.out).mono ?_); rintro e w47 ⟨rfl, hb⟩; refine ⟨_, rfl, ?_⟩; have n0_ := AsZ.mk (Kd.R_below (by (with_reducible repeat (first | apply Kd.R_alloc | apply Kd.R_drewN | apply Kd.R_drew)); exact (Kd.R_mono (Kd.R_far (p := ⟨gb143, 4, none⟩) (Kd.R_types HO147.out BK143.out (by decide)) (fun _ hk => hk.2) (.slice Ao45 t145.length co45)) (fun _ h_ => h_.1))) hb); have n1_ := AsZ.mk (bBl (g := gb143) (o := .cells #[.int .i64 a1_0, .string a1_1, .int .i64 a1_2, .string a1_3, .slice Ao45 t145.length co45] 40 (0, 0)) (by (with_reducible repeat first | apply bDn | apply bDr | apply bAl); refine bPu (cs := #[.int .i64 a1_0, .string a1_1, .int .i64 a1_2, .string a1_3, .slice A1_4 l1_4.length c1_4]) ?_ 4 _ rfl; (with_reducible repeat first | apply bDn | apply bDr | apply bAl); exact BK143.out) hb); have n2_ := AsZ.mk (bBl (g := gb144) (o := .cells #[.int .i64 0, .string (⟨#[]⟩ : ByteArray), .int .i64 0, .string (⟨#[]⟩ : ByteArray), .slice none 0 0] 40 (0, 0)) (by (with_reducible repeat first | apply bDn | apply bDr | apply bAl); refine bFr ?_ NB144_143.out _; (with_reducible repeat first | apply bDn | apply bDr | apply bAl); exact BK144.out) hb); have n3_ := AsZ.mk (tBl (by repeat (first | (with_reducible first | exact HB.out | apply aBl | apply pBd | apply dBl | refine sBl ?_ GE143.out | refine sBl ?_ GE144.out) | exact HB.out)) hb); clear HO147; clear BK143; clear BK144; clear HB; have HO147 := n0_; have BK143 := n1_; have BK144 := n2_; have HB := n3_; clear n0_ n1_ n2_ n3_; (try clear hb); (try clear hb2); (try clear hk); (try clear hi); obtain ⟨hcz48_0, hcz48_1, hcz48_2, hcz48_3, hcz48_4⟩ := celN5 BK143.out; obtain ⟨hfz48_0, hfz48_1, hfz48_2, hfz48_3, hfz48_4⟩ := fzN5 BK143.out; obtain ⟨hcz49_0, hcz49_1, hcz49_2, hcz49_3, hcz49_4⟩ := celN5 BK144.out; obtain ⟨hfz49_0, hfz49_1, hfz49_2, hfz49_3, hfz49_4⟩ := fzN5 BK144.out))
          refine bodyPost_ret (results_cell_row rfl _ _ gb144 40 #[.int .i64 a1_0, .string a1_1, .int .i64 a1_2, .string t155, .slice Ao45 t145.length co45] (0, 0) _ rfl (by (with_reducible repeat first | apply bDn | apply bDr | apply bAl); refine bPu (cs := #[.int .i64 a1_0, .string a1_1, .int .i64 a1_2, .string t155, .slice none 0 0]) ?_ 4 _ rfl; (with_reducible repeat first | apply bDn | apply bDr | apply bAl); refine bPu (cs := #[.int .i64 a1_0, .string a1_1, .int .i64 a1_2, .string (⟨#[]⟩ : ByteArray), .slice none 0 0]) ?_ 3 _ rfl; (with_reducible repeat first | apply bDn | apply bDr | apply bAl); refine bPu (cs := #[.int .i64 a1_0, .string a1_1, .int .i64 0, .string (⟨#[]⟩ : ByteArray), .slice none 0 0]) ?_ 2 _ rfl; (with_reducible repeat first | apply bDn | apply bDr | apply bAl); refine bPu (cs := #[.int .i64 a1_0, .string (⟨#[]⟩ : ByteArray), .int .i64 0, .string (⟨#[]⟩ : ByteArray), .slice none 0 0]) ?_ 1 _ rfl; (with_reducible repeat first | apply bDn | apply bDr | apply bAl); refine bPu (cs := #[.int .i64 0, .string (⟨#[]⟩ : ByteArray), .int .i64 0, .string (⟨#[]⟩ : ByteArray), .slice none 0 0]) ?_ 0 _ rfl; (with_reducible repeat first | apply bDn | apply bDr | apply bAl); refine bFr ?_ NB144_143.out _; (with_reducible repeat first | apply bDn | apply bDr | apply bAl); exact BK144.out) Try.underlying40 rfl (by kernel_rfl)) rfl ?_
          exact ⟨_, by first | rfl | (simp [eWn, eWs] <;> rfl) | (simp [*, eWn, eWs] <;> rfl), by (with_reducible repeat (first | apply Kd.R_alloc | apply Kd.R_drewN | apply Kd.R_drew)); exact Kd.R_mono (Kd.R_far (p := ⟨gb144, 4, none⟩) (Kd.R_far (p := ⟨gb144, 3, none⟩) (Kd.R_far (p := ⟨gb144, 2, none⟩) (Kd.R_far (p := ⟨gb144, 1, none⟩) (Kd.R_far (p := ⟨gb144, 0, none⟩) (Kd.R_far (p := ⟨gb143, 3, none⟩) (Kd.R_types (Kd.R_types HO147.out BK143.out (by decide)) BK144.out (by decide)) (fun _ hk => hk.1.2) (.string t155)) (fun _ hk => hk.2) (.int .i64 a1_0)) (fun _ hk => hk.2) (.string a1_1)) (fun _ hk => hk.2) (.int .i64 a1_2)) (fun _ hk => hk.2) (.string t155)) (fun _ hk => hk.2) (.slice Ao45 t145.length co45)) (fun _ hk => trivial), by repeat (first | (with_reducible first | exact HB.out | apply aBl | apply pBd | apply dBl | refine sBl ?_ GE143.out | refine sBl ?_ GE144.out) | exact HB.out)⟩
        · rw [if_neg c38] at H
          have c38b0 : (a0 == 3) = false := beq_eq_false_iff_ne.mpr c38
          have c38b1 : (a0 != 3) = true := bne_iff_ne.mpr c38
          by_cases c50 : a0 = 2
          · rw [if_pos c50] at H
            have c50b0 : (a0 == 2) = true := beq_iff_eq.mpr c50
            have c50b1 : (a0 != 2) = false := bne_eq_false_iff_eq.mpr c50
            clear c50
            by_cases c51 : (t145.length : Int) > 0
            · rw [if_pos c51] at H
              have c51b0 : decide (0 < (t145.length : Int)) = true := decide_eq_true c51
              have c51b1 : decide (0 < t145.length) = true := decide_eq_true (by omega)
              clear c51
              obtain ⟨ji52, hji52⟩ : ∃ j_ : Int, (wrap64 ((t145.length : Int) - 1)) = j_ := ⟨_, rfl⟩
              replace H : (if 0 ≤ (ji52) then (if (ji52) ≤ (t145.length : Int) then (some (a1_0, a1_1, a1_2, a1_3, (t145.take ((ji52) : Int).toNat))) else (none)) else (none)) = some (r1, r2, r3, r4, r5) := by first | (rw [hji52] at H; exact H) | (simp only [hji52] at H ⊢; exact H)
              (try rw [hji52] at A3)
              have hji52w : (IntKind.i64.wrap ((t145.length : Int) - 1)) = ji52 := (i64_w _).trans hji52
              by_cases c53 : 0 ≤ (ji52)
              · rw [if_pos c53] at H
                have c53b0 := eq_true c53
                have c53b1 : decide (0 ≤ (ji52)) = true := decide_eq_true c53
                clear c53
                by_cases c54 : (ji52) ≤ (t145.length : Int)
                · rw [if_pos c54] at H
                  have c54b0 := eq_true c54
                  have c54b1 : decide ((ji52) ≤ (t145.length : Int)) = true := decide_eq_true c54
                  clear c54
                  obtain ⟨y156, hy156⟩ : ∃ y_ : List Int, y_ = (t145.take ((ji52) : Int).toNat) := ⟨_, rfl⟩
                  replace H : (some (a1_0, a1_1, a1_2, a1_3, y156)) = some (r1, r2, r3, r4, r5) := by first | (rw [hy156]; with_reducible exact H) | (have H2_ := (Option.bind_some _ _).symm.trans H; rw [hy156]; with_reducible exact H2_) | (have H2_ := (Option.bind_some _ _).symm.trans H; with_reducible exact H2_) | with_reducible exact H | (rw [hy156]; exact H) | exact H
                  have Ny156 := AsZ.mk hy156
                  clear hy156
                  simp only [Option.some.injEq, Prod.mk.injEq] at H
                  obtain ⟨rfl, rfl, rfl, rfl, rfl⟩ := H
                  go_enter Try.func30, Try.ntmps30
                  go_wp2_with (first | ((with_reducible refine gDs (N := 3) rfl ?_); refine bEv ?hg (N := 3) ?hd (cs := #[.int .i64 a1_0, .string a1_1, .int .i64 a1_2, .string a1_3, .slice A1_4 l1_4.length c1_4]) (t := 40) ?hr ?_; (case hd => rfl); (case hg => rfl); (case hr => first | (go_simp; done) | (go_simp; rfl)); intro gb143 hg w55 hbox hb; have n0_ := AsZ.mk (tBl (by repeat (first | (with_reducible first | exact HB.out | apply aBl | apply pBd | apply dBl) | exact HB.out)) hb); have n1_ := AsZ.mk (hbox); have n2_ := AsZ.mk ((by rw [hg]; exact (zBl (by repeat (first | (with_reducible first | exact HB.out | apply aBl | apply pBd | apply dBl) | exact HB.out))) : w.heap.size ≤ gb143)); have n3_ := AsZ.mk ((by rw [hg]; exact (zBl (by repeat (first | (with_reducible first | exact HB.out | apply aBl | apply pBd | apply dBl) | exact HB.out))) : w.heap.size ≤ gb143)); clear HB; have HB := n0_; have BK143 := n1_; have GW143 := n2_; have GE143 := n3_; clear n0_ n1_ n2_ n3_; clear hb hbox hg) | ((with_reducible refine gDs (N := 4) rfl ?_); refine bEv ?hg (N := 4) ?hd (cs := #[.int .i64 0, .string (⟨#[]⟩ : ByteArray), .int .i64 0, .string (⟨#[]⟩ : ByteArray), .slice none 0 0]) (t := 40) ?hr ?_; (case hd => rfl); (case hg => rfl); (case hr => first | (go_simp; done) | (go_simp; rfl)); intro gb144 hg w56 hbox hb; have n0_ := AsZ.mk (bBl (g := gb143) (o := .cells #[.int .i64 a1_0, .string a1_1, .int .i64 a1_2, .string a1_3, .slice A1_4 l1_4.length c1_4] 40 (0, 0)) (by (with_reducible repeat first | apply bDn | apply bDr | apply bAl); exact BK143.out) hb); have n1_ := AsZ.mk (tBl (by repeat (first | (with_reducible first | exact HB.out | apply aBl | apply pBd | apply dBl | refine sBl ?_ GE143.out) | exact HB.out)) hb); have n2_ := AsZ.mk (hbox); have n3_ := AsZ.mk ((by rw [hg]; exact (zBl (by repeat (first | (with_reducible first | exact HB.out | apply aBl | apply pBd | apply dBl | refine sBl ?_ GE143.out) | exact HB.out))) : w.heap.size ≤ gb144)); have n4_ := AsZ.mk ((by rw [hg]; exact (zBl (by repeat (first | (with_reducible first | exact HB.out | apply aBl | apply pBd | apply dBl | refine sBl ?_ GE143.out) | exact HB.out))) : w.heap.size ≤ gb144)); have n5_ := AsZ.mk ((by rw [hg]; exact Nat.ne_of_lt (bLt (g := gb143) (o := .cells #[.int .i64 a1_0, .string a1_1, .int .i64 a1_2, .string a1_3, .slice A1_4 l1_4.length c1_4] 40 (0, 0)) (by (with_reducible repeat first | apply bDn | apply bDr | apply bAl); exact BK143.out)) : gb143 ≠ gb144)); have n6_ := AsZ.mk ((by rw [hg]; exact Nat.ne_of_gt (bLt (g := gb143) (o := .cells #[.int .i64 a1_0, .string a1_1, .int .i64 a1_2, .string a1_3, .slice A1_4 l1_4.length c1_4] 40 (0, 0)) (by (with_reducible repeat first | apply bDn | apply bDr | apply bAl); exact BK143.out)) : gb144 ≠ gb143)); clear BK143; clear HB; have BK143 := n0_; have HB := n1_; have BK144 := n2_; have GW144 := n3_; have GE144 := n4_; have NB143_144 := n5_; have NB144_143 := n6_; clear n0_ n1_ n2_ n3_ n4_ n5_ n6_; clear hb hbox hg; have hnb57 := NB143_144.out; have hnc57 := NB144_143.out; obtain ⟨hcz58_0, hcz58_1, hcz58_2, hcz58_3, hcz58_4⟩ := celN5 BK143.out; obtain ⟨hfz58_0, hfz58_1, hfz58_2, hfz58_3, hfz58_4⟩ := fzN5 BK143.out) | ((with_reducible refine gCa (f := 46) rfl ?_); refine gLl (some 7) rfl rfl Try.func46 (by kernel_rfl) rfl #[.slice A1_4 l1_4.length c1_4] rfl (by (try simp only [lsD, lsE, lsF]); first | done | rfl | (simp only [lsG, lsH]; rfl)) ?_; (with_reducible refine (bytes_Clone.calls _ _ l1_4 t145 _ ?side1 ?side2 A3.out).mono ?_); (case side1 => repeat (first | exact (Kd.C_below HR1_4.out HB.out) | (with_reducible refine Kd.C_alloc ?_ _) | (with_reducible refine Kd.C_drewN ?_ _) | (with_reducible refine Kd.C_drew ?_))); (case side2 => exact HC1_4.out); rintro e w59 ⟨v146, rfl, ho0, hb⟩; refine ⟨_, rfl, ?_⟩; have n0_ := AsZ.mk (Kd.R_lower ho0 (zBl (by repeat (first | (with_reducible first | exact HB.out | apply aBl | apply pBd | apply dBl | refine sBl ?_ GE143.out | refine sBl ?_ GE144.out) | exact HB.out)))); have n1_ := AsZ.mk (bBl (g := gb143) (o := .cells #[.int .i64 a1_0, .string a1_1, .int .i64 a1_2, .string a1_3, .slice A1_4 l1_4.length c1_4] 40 (0, 0)) (by (with_reducible repeat first | apply bDn | apply bDr | apply bAl); exact BK143.out) hb); have n2_ := AsZ.mk (bBl (g := gb144) (o := .cells #[.int .i64 0, .string (⟨#[]⟩ : ByteArray), .int .i64 0, .string (⟨#[]⟩ : ByteArray), .slice none 0 0] 40 (0, 0)) (by (with_reducible repeat first | apply bDn | apply bDr | apply bAl); exact BK144.out) hb); have n3_ := AsZ.mk (tBl (by repeat (first | (with_reducible first | exact HB.out | apply aBl | apply pBd | apply dBl | refine sBl ?_ GE143.out | refine sBl ?_ GE144.out) | exact HB.out)) hb); clear BK143; clear BK144; clear HB; have HO147 := n0_; have BK143 := n1_; have BK144 := n2_; have HB := n3_; clear n0_ n1_ n2_ n3_; (try clear hb); (try clear hb2); (try clear hk); (try clear hi); (try clear ho0); obtain ⟨Ao60, co60, eo60⟩ := Kd.R_slice HO147.out; subst eo60; obtain ⟨hcz61_0, hcz61_1, hcz61_2, hcz61_3, hcz61_4⟩ := celN5 BK143.out; obtain ⟨hfz61_0, hfz61_1, hfz61_2, hfz61_3, hfz61_4⟩ := fzN5 BK143.out) | ((with_reducible refine gate_store (t := 38) (p := 8) rfl ?_); refine store_event (t := 38) (p := 8) (v := ?vo_w62) (w1 := (w59.setCell ⟨gb143, 4, none⟩ (.slice Ao60 t145.length co60))) ?hg ?ho ?hn ?hr ?_; (case ho => rfl); (case hg => rfl); (case hn => rfl); (case hr => first | (go_simp; done) | (go_simp; rfl)); intro w62 hw; have n0_ : AsZ (Kd.R (Kd.int .u8) 5 w62 w.heap.size (fun _ => True) (.slice Ao60 t145.length co60) t145) := ⟨(by rw [hw]; exact (by (with_reducible repeat (first | apply Kd.R_alloc | apply Kd.R_drewN | apply Kd.R_drew)); exact Kd.R_mono (Kd.R_far (p := ⟨gb143, 4, none⟩) (Kd.R_types HO147.out BK143.out (by decide)) (fun _ hk => hk.2) (.slice Ao60 t145.length co60)) (fun _ hk => trivial)))⟩; have n1_ : AsZ (w62.heap[gb143]? = some (.cells #[.int .i64 a1_0, .string a1_1, .int .i64 a1_2, .string a1_3, .slice Ao60 t145.length co60] 40 (0, 0))) := ⟨(by rw [hw]; exact (by (with_reducible repeat first | apply bDn | apply bDr | apply bAl); refine bPu (cs := #[.int .i64 a1_0, .string a1_1, .int .i64 a1_2, .string a1_3, .slice A1_4 l1_4.length c1_4]) ?_ 4 _ rfl; (with_reducible repeat first | apply bDn | apply bDr | apply bAl); exact BK143.out))⟩; have n2_ : AsZ (w62.heap[gb144]? = some (.cells #[.int .i64 0, .string (⟨#[]⟩ : ByteArray), .int .i64 0, .string (⟨#[]⟩ : ByteArray), .slice none 0 0] 40 (0, 0))) := ⟨(by rw [hw]; exact (by (with_reducible repeat first | apply bDn | apply bDr | apply bAl); refine bFr ?_ NB144_143.out _; (with_reducible repeat first | apply bDn | apply bDr | apply bAl); exact BK144.out))⟩; have n3_ : AsZ (Below w.heap.size w w62) := ⟨(by rw [hw]; exact (by repeat (first | (with_reducible first | exact HB.out | apply aBl | apply pBd | apply dBl | refine sBl ?_ GE143.out | refine sBl ?_ GE144.out) | exact HB.out)))⟩; clear hw; clear HO147; clear BK143; clear BK144; clear HB; have HO147 := n0_; have BK143 := n1_; have BK144 := n2_; have HB := n3_; clear n0_ n1_ n2_ n3_; obtain ⟨hcz63_0, hcz63_1, hcz63_2, hcz63_3, hcz63_4⟩ := celN5 BK143.out; obtain ⟨hfz63_0, hfz63_1, hfz63_2, hfz63_3, hfz63_4⟩ := fzN5 BK143.out; have q64 : ((ji52) : Int) ≤ ((t145.length : Int) : Int) := of_decide_eq_true (by first | (with_reducible assumption) | assumption); obtain ⟨i064, hi064, _, hsz64, _⟩ := info_parts info5; have hcut64 := cut_to (P := Try.prog) 38 5 .i64 Try.underlying38 hi064 Ao60 t145.length co60 (ji52) (of_decide_eq_true (by first | (with_reducible assumption) | assumption)) q64 (Kd.R_reads' HO147.out).2.1; have hr64 := Kd.R_take (m := ((ji52) : Int).toNat) HO147.out (by omega); have hy64 : y156.length = ((ji52) : Int).toNat := (by rw [Ny156.out, List.length_take]; omega); rw [← Ny156.out] at hr64; rw [← hy64] at hr64 hcut64; clear hy64 hi064 hsz64 HO147; have HO158 := AsZ.mk hr64; clear hr64; replace q64 := eq_true q64; obtain ⟨hcz65_0, hcz65_1, hcz65_2, hcz65_3, hcz65_4⟩ := celN5 BK144.out; obtain ⟨hfz65_0, hfz65_1, hfz65_2, hfz65_3, hfz65_4⟩ := fzN5 BK144.out))
                  refine bodyPost_ret (results_cell_row rfl _ _ gb144 40 #[.int .i64 a1_0, .string a1_1, .int .i64 a1_2, .string a1_3, .slice Ao60 y156.length co60] (0, 0) _ rfl (by (with_reducible repeat first | apply bDn | apply bDr | apply bAl); refine bPu (cs := #[.int .i64 a1_0, .string a1_1, .int .i64 a1_2, .string a1_3, .slice none 0 0]) ?_ 4 _ rfl; (with_reducible repeat first | apply bDn | apply bDr | apply bAl); refine bPu (cs := #[.int .i64 a1_0, .string a1_1, .int .i64 a1_2, .string (⟨#[]⟩ : ByteArray), .slice none 0 0]) ?_ 3 _ rfl; (with_reducible repeat first | apply bDn | apply bDr | apply bAl); refine bPu (cs := #[.int .i64 a1_0, .string a1_1, .int .i64 0, .string (⟨#[]⟩ : ByteArray), .slice none 0 0]) ?_ 2 _ rfl; (with_reducible repeat first | apply bDn | apply bDr | apply bAl); refine bPu (cs := #[.int .i64 a1_0, .string (⟨#[]⟩ : ByteArray), .int .i64 0, .string (⟨#[]⟩ : ByteArray), .slice none 0 0]) ?_ 1 _ rfl; (with_reducible repeat first | apply bDn | apply bDr | apply bAl); refine bPu (cs := #[.int .i64 0, .string (⟨#[]⟩ : ByteArray), .int .i64 0, .string (⟨#[]⟩ : ByteArray), .slice none 0 0]) ?_ 0 _ rfl; (with_reducible repeat first | apply bDn | apply bDr | apply bAl); refine bFr ?_ NB144_143.out _; (with_reducible repeat first | apply bDn | apply bDr | apply bAl); exact BK144.out) Try.underlying40 rfl (by kernel_rfl)) rfl ?_
                  exact ⟨_, by first | rfl | (simp [eWn, eWs] <;> rfl) | (simp only [← hji52]; first | rfl | (simp [eWn, eWs] <;> rfl)) | (simp [*, eWn, eWs] <;> rfl), by (with_reducible repeat (first | apply Kd.R_alloc | apply Kd.R_drewN | apply Kd.R_drew)); exact Kd.R_mono (Kd.R_far (p := ⟨gb144, 4, none⟩) (Kd.R_far (p := ⟨gb144, 3, none⟩) (Kd.R_far (p := ⟨gb144, 2, none⟩) (Kd.R_far (p := ⟨gb144, 1, none⟩) (Kd.R_far (p := ⟨gb144, 0, none⟩) (Kd.R_far (p := ⟨gb143, 4, none⟩) (Kd.R_types (Kd.R_types HO158.out BK143.out (by decide)) BK144.out (by decide)) (fun _ hk => hk.1.2) (.slice Ao60 y156.length co60)) (fun _ hk => hk.2) (.int .i64 a1_0)) (fun _ hk => hk.2) (.string a1_1)) (fun _ hk => hk.2) (.int .i64 a1_2)) (fun _ hk => hk.2) (.string a1_3)) (fun _ hk => hk.2) (.slice Ao60 y156.length co60)) (fun _ hk => trivial), by repeat (first | (with_reducible first | exact HB.out | apply aBl | apply pBd | apply dBl | refine sBl ?_ GE143.out | refine sBl ?_ GE144.out) | exact HB.out)⟩
                · rw [if_neg c54] at H
                  exact absurd H (by simp)
              · rw [if_neg c53] at H
                exact absurd H (by simp)
            · rw [if_neg c51] at H
              have c51b0 : decide (0 < (t145.length : Int)) = false := decide_eq_false c51
              have c51b1 : decide (0 < t145.length) = false := decide_eq_false (by omega)
              clear c51
              simp only [Option.some.injEq, Prod.mk.injEq] at H
              obtain ⟨rfl, rfl, rfl, rfl, rfl⟩ := H
              go_enter Try.func30, Try.ntmps30
              go_wp2_with (first | ((with_reducible refine gDs (N := 3) rfl ?_); refine bEv ?hg (N := 3) ?hd (cs := #[.int .i64 a1_0, .string a1_1, .int .i64 a1_2, .string a1_3, .slice A1_4 l1_4.length c1_4]) (t := 40) ?hr ?_; (case hd => rfl); (case hg => rfl); (case hr => first | (go_simp; done) | (go_simp; rfl)); intro gb143 hg w66 hbox hb; have n0_ := AsZ.mk (tBl (by repeat (first | (with_reducible first | exact HB.out | apply aBl | apply pBd | apply dBl) | exact HB.out)) hb); have n1_ := AsZ.mk (hbox); have n2_ := AsZ.mk ((by rw [hg]; exact (zBl (by repeat (first | (with_reducible first | exact HB.out | apply aBl | apply pBd | apply dBl) | exact HB.out))) : w.heap.size ≤ gb143)); have n3_ := AsZ.mk ((by rw [hg]; exact (zBl (by repeat (first | (with_reducible first | exact HB.out | apply aBl | apply pBd | apply dBl) | exact HB.out))) : w.heap.size ≤ gb143)); clear HB; have HB := n0_; have BK143 := n1_; have GW143 := n2_; have GE143 := n3_; clear n0_ n1_ n2_ n3_; clear hb hbox hg) | ((with_reducible refine gDs (N := 4) rfl ?_); refine bEv ?hg (N := 4) ?hd (cs := #[.int .i64 0, .string (⟨#[]⟩ : ByteArray), .int .i64 0, .string (⟨#[]⟩ : ByteArray), .slice none 0 0]) (t := 40) ?hr ?_; (case hd => rfl); (case hg => rfl); (case hr => first | (go_simp; done) | (go_simp; rfl)); intro gb144 hg w67 hbox hb; have n0_ := AsZ.mk (bBl (g := gb143) (o := .cells #[.int .i64 a1_0, .string a1_1, .int .i64 a1_2, .string a1_3, .slice A1_4 l1_4.length c1_4] 40 (0, 0)) (by (with_reducible repeat first | apply bDn | apply bDr | apply bAl); exact BK143.out) hb); have n1_ := AsZ.mk (tBl (by repeat (first | (with_reducible first | exact HB.out | apply aBl | apply pBd | apply dBl | refine sBl ?_ GE143.out) | exact HB.out)) hb); have n2_ := AsZ.mk (hbox); have n3_ := AsZ.mk ((by rw [hg]; exact (zBl (by repeat (first | (with_reducible first | exact HB.out | apply aBl | apply pBd | apply dBl | refine sBl ?_ GE143.out) | exact HB.out))) : w.heap.size ≤ gb144)); have n4_ := AsZ.mk ((by rw [hg]; exact (zBl (by repeat (first | (with_reducible first | exact HB.out | apply aBl | apply pBd | apply dBl | refine sBl ?_ GE143.out) | exact HB.out))) : w.heap.size ≤ gb144)); have n5_ := AsZ.mk ((by rw [hg]; exact Nat.ne_of_lt (bLt (g := gb143) (o := .cells #[.int .i64 a1_0, .string a1_1, .int .i64 a1_2, .string a1_3, .slice A1_4 l1_4.length c1_4] 40 (0, 0)) (by (with_reducible repeat first | apply bDn | apply bDr | apply bAl); exact BK143.out)) : gb143 ≠ gb144)); have n6_ := AsZ.mk ((by rw [hg]; exact Nat.ne_of_gt (bLt (g := gb143) (o := .cells #[.int .i64 a1_0, .string a1_1, .int .i64 a1_2, .string a1_3, .slice A1_4 l1_4.length c1_4] 40 (0, 0)) (by (with_reducible repeat first | apply bDn | apply bDr | apply bAl); exact BK143.out)) : gb144 ≠ gb143)); clear BK143; clear HB; have BK143 := n0_; have HB := n1_; have BK144 := n2_; have GW144 := n3_; have GE144 := n4_; have NB143_144 := n5_; have NB144_143 := n6_; clear n0_ n1_ n2_ n3_ n4_ n5_ n6_; clear hb hbox hg; have hnb68 := NB143_144.out; have hnc68 := NB144_143.out; obtain ⟨hcz69_0, hcz69_1, hcz69_2, hcz69_3, hcz69_4⟩ := celN5 BK143.out; obtain ⟨hfz69_0, hfz69_1, hfz69_2, hfz69_3, hfz69_4⟩ := fzN5 BK143.out) | ((with_reducible refine gCa (f := 46) rfl ?_); refine gLl (some 7) rfl rfl Try.func46 (by kernel_rfl) rfl #[.slice A1_4 l1_4.length c1_4] rfl (by (try simp only [lsD, lsE, lsF]); first | done | rfl | (simp only [lsG, lsH]; rfl)) ?_; (with_reducible refine (bytes_Clone.calls _ _ l1_4 t145 _ ?side1 ?side2 A3.out).mono ?_); (case side1 => repeat (first | exact (Kd.C_below HR1_4.out HB.out) | (with_reducible refine Kd.C_alloc ?_ _) | (with_reducible refine Kd.C_drewN ?_ _) | (with_reducible refine Kd.C_drew ?_))); (case side2 => exact HC1_4.out); rintro e w70 ⟨v146, rfl, ho0, hb⟩; refine ⟨_, rfl, ?_⟩; have n0_ := AsZ.mk (Kd.R_lower ho0 (zBl (by repeat (first | (with_reducible first | exact HB.out | apply aBl | apply pBd | apply dBl | refine sBl ?_ GE143.out | refine sBl ?_ GE144.out) | exact HB.out)))); have n1_ := AsZ.mk (bBl (g := gb143) (o := .cells #[.int .i64 a1_0, .string a1_1, .int .i64 a1_2, .string a1_3, .slice A1_4 l1_4.length c1_4] 40 (0, 0)) (by (with_reducible repeat first | apply bDn | apply bDr | apply bAl); exact BK143.out) hb); have n2_ := AsZ.mk (bBl (g := gb144) (o := .cells #[.int .i64 0, .string (⟨#[]⟩ : ByteArray), .int .i64 0, .string (⟨#[]⟩ : ByteArray), .slice none 0 0] 40 (0, 0)) (by (with_reducible repeat first | apply bDn | apply bDr | apply bAl); exact BK144.out) hb); have n3_ := AsZ.mk (tBl (by repeat (first | (with_reducible first | exact HB.out | apply aBl | apply pBd | apply dBl | refine sBl ?_ GE143.out | refine sBl ?_ GE144.out) | exact HB.out)) hb); clear BK143; clear BK144; clear HB; have HO147 := n0_; have BK143 := n1_; have BK144 := n2_; have HB := n3_; clear n0_ n1_ n2_ n3_; (try clear hb); (try clear hb2); (try clear hk); (try clear hi); (try clear ho0); obtain ⟨Ao71, co71, eo71⟩ := Kd.R_slice HO147.out; subst eo71; obtain ⟨hcz72_0, hcz72_1, hcz72_2, hcz72_3, hcz72_4⟩ := celN5 BK143.out; obtain ⟨hfz72_0, hfz72_1, hfz72_2, hfz72_3, hfz72_4⟩ := fzN5 BK143.out; obtain ⟨hcz73_0, hcz73_1, hcz73_2, hcz73_3, hcz73_4⟩ := celN5 BK144.out; obtain ⟨hfz73_0, hfz73_1, hfz73_2, hfz73_3, hfz73_4⟩ := fzN5 BK144.out))
              refine bodyPost_ret (results_cell_row rfl _ _ gb144 40 #[.int .i64 a1_0, .string a1_1, .int .i64 a1_2, .string a1_3, .slice Ao71 t145.length co71] (0, 0) _ rfl (by (with_reducible repeat first | apply bDn | apply bDr | apply bAl); refine bPu (cs := #[.int .i64 a1_0, .string a1_1, .int .i64 a1_2, .string a1_3, .slice none 0 0]) ?_ 4 _ rfl; (with_reducible repeat first | apply bDn | apply bDr | apply bAl); refine bPu (cs := #[.int .i64 a1_0, .string a1_1, .int .i64 a1_2, .string (⟨#[]⟩ : ByteArray), .slice none 0 0]) ?_ 3 _ rfl; (with_reducible repeat first | apply bDn | apply bDr | apply bAl); refine bPu (cs := #[.int .i64 a1_0, .string a1_1, .int .i64 0, .string (⟨#[]⟩ : ByteArray), .slice none 0 0]) ?_ 2 _ rfl; (with_reducible repeat first | apply bDn | apply bDr | apply bAl); refine bPu (cs := #[.int .i64 a1_0, .string (⟨#[]⟩ : ByteArray), .int .i64 0, .string (⟨#[]⟩ : ByteArray), .slice none 0 0]) ?_ 1 _ rfl; (with_reducible repeat first | apply bDn | apply bDr | apply bAl); refine bPu (cs := #[.int .i64 0, .string (⟨#[]⟩ : ByteArray), .int .i64 0, .string (⟨#[]⟩ : ByteArray), .slice none 0 0]) ?_ 0 _ rfl; (with_reducible repeat first | apply bDn | apply bDr | apply bAl); refine bFr ?_ NB144_143.out _; (with_reducible repeat first | apply bDn | apply bDr | apply bAl); exact BK144.out) Try.underlying40 rfl (by kernel_rfl)) rfl ?_
              exact ⟨_, by first | rfl | (simp [eWn, eWs] <;> rfl) | (simp [*, eWn, eWs] <;> rfl), by (with_reducible repeat (first | apply Kd.R_alloc | apply Kd.R_drewN | apply Kd.R_drew)); exact Kd.R_mono (Kd.R_far (p := ⟨gb144, 4, none⟩) (Kd.R_far (p := ⟨gb144, 3, none⟩) (Kd.R_far (p := ⟨gb144, 2, none⟩) (Kd.R_far (p := ⟨gb144, 1, none⟩) (Kd.R_far (p := ⟨gb144, 0, none⟩) (Kd.R_far (p := ⟨gb143, 4, none⟩) (Kd.R_types (Kd.R_types HO147.out BK143.out (by decide)) BK144.out (by decide)) (fun _ hk => hk.1.2) (.slice Ao71 t145.length co71)) (fun _ hk => hk.2) (.int .i64 a1_0)) (fun _ hk => hk.2) (.string a1_1)) (fun _ hk => hk.2) (.int .i64 a1_2)) (fun _ hk => hk.2) (.string a1_3)) (fun _ hk => hk.2) (.slice Ao71 t145.length co71)) (fun _ hk => trivial), by repeat (first | (with_reducible first | exact HB.out | apply aBl | apply pBd | apply dBl | refine sBl ?_ GE143.out | refine sBl ?_ GE144.out) | exact HB.out)⟩
          · rw [if_neg c50] at H
            have c50b0 : (a0 == 2) = false := beq_eq_false_iff_ne.mpr c50
            have c50b1 : (a0 != 2) = true := bne_iff_ne.mpr c50
            simp only [Option.some.injEq, Prod.mk.injEq] at H
            obtain ⟨rfl, rfl, rfl, rfl, rfl⟩ := H
            go_enter Try.func30, Try.ntmps30
            go_wp2_with (first | ((with_reducible refine gDs (N := 3) rfl ?_); refine bEv ?hg (N := 3) ?hd (cs := #[.int .i64 a1_0, .string a1_1, .int .i64 a1_2, .string a1_3, .slice A1_4 l1_4.length c1_4]) (t := 40) ?hr ?_; (case hd => rfl); (case hg => rfl); (case hr => first | (go_simp; done) | (go_simp; rfl)); intro gb143 hg w74 hbox hb; have n0_ := AsZ.mk (tBl (by repeat (first | (with_reducible first | exact HB.out | apply aBl | apply pBd | apply dBl) | exact HB.out)) hb); have n1_ := AsZ.mk (hbox); have n2_ := AsZ.mk ((by rw [hg]; exact (zBl (by repeat (first | (with_reducible first | exact HB.out | apply aBl | apply pBd | apply dBl) | exact HB.out))) : w.heap.size ≤ gb143)); have n3_ := AsZ.mk ((by rw [hg]; exact (zBl (by repeat (first | (with_reducible first | exact HB.out | apply aBl | apply pBd | apply dBl) | exact HB.out))) : w.heap.size ≤ gb143)); clear HB; have HB := n0_; have BK143 := n1_; have GW143 := n2_; have GE143 := n3_; clear n0_ n1_ n2_ n3_; clear hb hbox hg) | ((with_reducible refine gDs (N := 4) rfl ?_); refine bEv ?hg (N := 4) ?hd (cs := #[.int .i64 0, .string (⟨#[]⟩ : ByteArray), .int .i64 0, .string (⟨#[]⟩ : ByteArray), .slice none 0 0]) (t := 40) ?hr ?_; (case hd => rfl); (case hg => rfl); (case hr => first | (go_simp; done) | (go_simp; rfl)); intro gb144 hg w75 hbox hb; have n0_ := AsZ.mk (bBl (g := gb143) (o := .cells #[.int .i64 a1_0, .string a1_1, .int .i64 a1_2, .string a1_3, .slice A1_4 l1_4.length c1_4] 40 (0, 0)) (by (with_reducible repeat first | apply bDn | apply bDr | apply bAl); exact BK143.out) hb); have n1_ := AsZ.mk (tBl (by repeat (first | (with_reducible first | exact HB.out | apply aBl | apply pBd | apply dBl | refine sBl ?_ GE143.out) | exact HB.out)) hb); have n2_ := AsZ.mk (hbox); have n3_ := AsZ.mk ((by rw [hg]; exact (zBl (by repeat (first | (with_reducible first | exact HB.out | apply aBl | apply pBd | apply dBl | refine sBl ?_ GE143.out) | exact HB.out))) : w.heap.size ≤ gb144)); have n4_ := AsZ.mk ((by rw [hg]; exact (zBl (by repeat (first | (with_reducible first | exact HB.out | apply aBl | apply pBd | apply dBl | refine sBl ?_ GE143.out) | exact HB.out))) : w.heap.size ≤ gb144)); have n5_ := AsZ.mk ((by rw [hg]; exact Nat.ne_of_lt (bLt (g := gb143) (o := .cells #[.int .i64 a1_0, .string a1_1, .int .i64 a1_2, .string a1_3, .slice A1_4 l1_4.length c1_4] 40 (0, 0)) (by (with_reducible repeat first | apply bDn | apply bDr | apply bAl); exact BK143.out)) : gb143 ≠ gb144)); have n6_ := AsZ.mk ((by rw [hg]; exact Nat.ne_of_gt (bLt (g := gb143) (o := .cells #[.int .i64 a1_0, .string a1_1, .int .i64 a1_2, .string a1_3, .slice A1_4 l1_4.length c1_4] 40 (0, 0)) (by (with_reducible repeat first | apply bDn | apply bDr | apply bAl); exact BK143.out)) : gb144 ≠ gb143)); clear BK143; clear HB; have BK143 := n0_; have HB := n1_; have BK144 := n2_; have GW144 := n3_; have GE144 := n4_; have NB143_144 := n5_; have NB144_143 := n6_; clear n0_ n1_ n2_ n3_ n4_ n5_ n6_; clear hb hbox hg; have hnb76 := NB143_144.out; have hnc76 := NB144_143.out; obtain ⟨hcz77_0, hcz77_1, hcz77_2, hcz77_3, hcz77_4⟩ := celN5 BK143.out; obtain ⟨hfz77_0, hfz77_1, hfz77_2, hfz77_3, hfz77_4⟩ := fzN5 BK143.out) | ((with_reducible refine gCa (f := 46) rfl ?_); refine gLl (some 7) rfl rfl Try.func46 (by kernel_rfl) rfl #[.slice A1_4 l1_4.length c1_4] rfl (by (try simp only [lsD, lsE, lsF]); first | done | rfl | (simp only [lsG, lsH]; rfl)) ?_; (with_reducible refine (bytes_Clone.calls _ _ l1_4 t145 _ ?side1 ?side2 A3.out).mono ?_); (case side1 => repeat (first | exact (Kd.C_below HR1_4.out HB.out) | (with_reducible refine Kd.C_alloc ?_ _) | (with_reducible refine Kd.C_drewN ?_ _) | (with_reducible refine Kd.C_drew ?_))); (case side2 => exact HC1_4.out); rintro e w78 ⟨v146, rfl, ho0, hb⟩; refine ⟨_, rfl, ?_⟩; have n0_ := AsZ.mk (Kd.R_lower ho0 (zBl (by repeat (first | (with_reducible first | exact HB.out | apply aBl | apply pBd | apply dBl | refine sBl ?_ GE143.out | refine sBl ?_ GE144.out) | exact HB.out)))); have n1_ := AsZ.mk (bBl (g := gb143) (o := .cells #[.int .i64 a1_0, .string a1_1, .int .i64 a1_2, .string a1_3, .slice A1_4 l1_4.length c1_4] 40 (0, 0)) (by (with_reducible repeat first | apply bDn | apply bDr | apply bAl); exact BK143.out) hb); have n2_ := AsZ.mk (bBl (g := gb144) (o := .cells #[.int .i64 0, .string (⟨#[]⟩ : ByteArray), .int .i64 0, .string (⟨#[]⟩ : ByteArray), .slice none 0 0] 40 (0, 0)) (by (with_reducible repeat first | apply bDn | apply bDr | apply bAl); exact BK144.out) hb); have n3_ := AsZ.mk (tBl (by repeat (first | (with_reducible first | exact HB.out | apply aBl | apply pBd | apply dBl | refine sBl ?_ GE143.out | refine sBl ?_ GE144.out) | exact HB.out)) hb); clear BK143; clear BK144; clear HB; have HO147 := n0_; have BK143 := n1_; have BK144 := n2_; have HB := n3_; clear n0_ n1_ n2_ n3_; (try clear hb); (try clear hb2); (try clear hk); (try clear hi); (try clear ho0); obtain ⟨Ao79, co79, eo79⟩ := Kd.R_slice HO147.out; subst eo79; obtain ⟨hcz80_0, hcz80_1, hcz80_2, hcz80_3, hcz80_4⟩ := celN5 BK143.out; obtain ⟨hfz80_0, hfz80_1, hfz80_2, hfz80_3, hfz80_4⟩ := fzN5 BK143.out; obtain ⟨hcz81_0, hcz81_1, hcz81_2, hcz81_3, hcz81_4⟩ := celN5 BK144.out; obtain ⟨hfz81_0, hfz81_1, hfz81_2, hfz81_3, hfz81_4⟩ := fzN5 BK144.out))
            refine bodyPost_ret (results_cell_row rfl _ _ gb144 40 #[.int .i64 a1_0, .string a1_1, .int .i64 a1_2, .string a1_3, .slice Ao79 t145.length co79] (0, 0) _ rfl (by (with_reducible repeat first | apply bDn | apply bDr | apply bAl); refine bPu (cs := #[.int .i64 a1_0, .string a1_1, .int .i64 a1_2, .string a1_3, .slice none 0 0]) ?_ 4 _ rfl; (with_reducible repeat first | apply bDn | apply bDr | apply bAl); refine bPu (cs := #[.int .i64 a1_0, .string a1_1, .int .i64 a1_2, .string (⟨#[]⟩ : ByteArray), .slice none 0 0]) ?_ 3 _ rfl; (with_reducible repeat first | apply bDn | apply bDr | apply bAl); refine bPu (cs := #[.int .i64 a1_0, .string a1_1, .int .i64 0, .string (⟨#[]⟩ : ByteArray), .slice none 0 0]) ?_ 2 _ rfl; (with_reducible repeat first | apply bDn | apply bDr | apply bAl); refine bPu (cs := #[.int .i64 a1_0, .string (⟨#[]⟩ : ByteArray), .int .i64 0, .string (⟨#[]⟩ : ByteArray), .slice none 0 0]) ?_ 1 _ rfl; (with_reducible repeat first | apply bDn | apply bDr | apply bAl); refine bPu (cs := #[.int .i64 0, .string (⟨#[]⟩ : ByteArray), .int .i64 0, .string (⟨#[]⟩ : ByteArray), .slice none 0 0]) ?_ 0 _ rfl; (with_reducible repeat first | apply bDn | apply bDr | apply bAl); refine bFr ?_ NB144_143.out _; (with_reducible repeat first | apply bDn | apply bDr | apply bAl); exact BK144.out) Try.underlying40 rfl (by kernel_rfl)) rfl ?_
            exact ⟨_, by first | rfl | (simp [eWn, eWs] <;> rfl) | (simp [*, eWn, eWs] <;> rfl), by (with_reducible repeat (first | apply Kd.R_alloc | apply Kd.R_drewN | apply Kd.R_drew)); exact Kd.R_mono (Kd.R_far (p := ⟨gb144, 4, none⟩) (Kd.R_far (p := ⟨gb144, 3, none⟩) (Kd.R_far (p := ⟨gb144, 2, none⟩) (Kd.R_far (p := ⟨gb144, 1, none⟩) (Kd.R_far (p := ⟨gb144, 0, none⟩) (Kd.R_far (p := ⟨gb143, 4, none⟩) (Kd.R_types (Kd.R_types HO147.out BK143.out (by decide)) BK144.out (by decide)) (fun _ hk => hk.1.2) (.slice Ao79 t145.length co79)) (fun _ hk => hk.2) (.int .i64 a1_0)) (fun _ hk => hk.2) (.string a1_1)) (fun _ hk => hk.2) (.int .i64 a1_2)) (fun _ hk => hk.2) (.string a1_3)) (fun _ hk => hk.2) (.slice Ao79 t145.length co79)) (fun _ hk => trivial), by repeat (first | (with_reducible first | exact HB.out | apply aBl | apply pBd | apply dBl | refine sBl ?_ GE143.out | refine sBl ?_ GE144.out) | exact HB.out)⟩
def spenceref24_Length.f (a0 : Int) (a1 : Int) : Option (Int) := if a0 < 0 then (some (-1)) else (if a0 > 15 then (some (-1)) else (if a1 < 0 then (some (-1)) else (if a1 > 1000000 then (some (-1)) else (some (Int.tmod (wrap64 ((wrap64 (a0 * 53)) + (wrap64 (a1 * 29)))) 160)))))
set_option maxHeartbeats 8000000 in
set_option maxRecDepth 100000 in
theorem spenceref24_Length.calls (a0 : Int) (a1 : Int) (r : Int) (w : World) (h : spenceref24_Length.f a0 a1 = some r) :
    Calls Try.prog 19 #[.int .i64 a0, .int .i64 a1] w fun e w' => e = .returned (.int .i64 r) ∧ Drawn0 w w' := by
  have H : (if a0 < 0 then (some (-1)) else (if a0 > 15 then (some (-1)) else (if a1 < 0 then (some (-1)) else (if a1 > 1000000 then (some (-1)) else (some (Int.tmod (wrap64 ((wrap64 (a0 * 53)) + (wrap64 (a1 * 29)))) 160)))))) = some r := h
  clear h
  by_cases c3 : a0 < 0
  · rw [if_pos c3] at H
    have c3b0 : decide (a0 < 0) = true := decide_eq_true c3
    clear c3
    obtain rfl := Option.some.inj H
    go_enter Try.func19, Try.ntmps19
    go_wp2
    go_ret
    exact ⟨by first | rfl | (simp; done) | (simp [*]; done) | exact nEm _ | exact eEm _, by repeat (first | exact Drawn0.refl _ | apply Drawn0.step)⟩
  · rw [if_neg c3] at H
    have c3b0 : decide (a0 < 0) = false := decide_eq_false c3
    clear c3
    by_cases c4 : a0 > 15
    · rw [if_pos c4] at H
      have c4b0 : decide (15 < a0) = true := decide_eq_true c4
      clear c4
      obtain rfl := Option.some.inj H
      go_enter Try.func19, Try.ntmps19
      go_wp2
      go_ret
      exact ⟨by first | rfl | (simp; done) | (simp [*]; done) | exact nEm _ | exact eEm _, by repeat (first | exact Drawn0.refl _ | apply Drawn0.step)⟩
    · rw [if_neg c4] at H
      have c4b0 : decide (15 < a0) = false := decide_eq_false c4
      clear c4
      by_cases c5 : a1 < 0
      · rw [if_pos c5] at H
        have c5b0 : decide (a1 < 0) = true := decide_eq_true c5
        clear c5
        obtain rfl := Option.some.inj H
        go_enter Try.func19, Try.ntmps19
        go_wp2
        go_ret
        exact ⟨by first | rfl | (simp; done) | (simp [*]; done) | exact nEm _ | exact eEm _, by repeat (first | exact Drawn0.refl _ | apply Drawn0.step)⟩
      · rw [if_neg c5] at H
        have c5b0 : decide (a1 < 0) = false := decide_eq_false c5
        clear c5
        by_cases c6 : a1 > 1000000
        · rw [if_pos c6] at H
          have c6b0 : decide (1000000 < a1) = true := decide_eq_true c6
          clear c6
          obtain rfl := Option.some.inj H
          go_enter Try.func19, Try.ntmps19
          go_wp2
          go_ret
          exact ⟨by first | rfl | (simp; done) | (simp [*]; done) | exact nEm _ | exact eEm _, by repeat (first | exact Drawn0.refl _ | apply Drawn0.step)⟩
        · rw [if_neg c6] at H
          have c6b0 : decide (1000000 < a1) = false := decide_eq_false c6
          clear c6
          obtain rfl := Option.some.inj H
          go_enter Try.func19, Try.ntmps19
          go_wp2
          go_ret
          exact ⟨by first | rfl | (simp; done) | (simp [*]; done) | exact nEm _ | exact eEm _, by repeat (first | exact Drawn0.refl _ | apply Drawn0.step)⟩
def r1dig.l0 : Nat → Int → ByteArray → Option (ByteArray)
  | 0, _, _ => none
  | k + 1, x0, x3 => if x0 ≥ 10 then ((some (([(IntKind.u64.wrap (48 + (Int.tmod (IntKind.u64.wrap (Int.tdiv x0 10)) 10))) % 256] : List Int) : List Int)).bind fun y169 => (if (strOfNums y169).size + x3.size ≤ 9223372036854775807 then (r1dig.l0 k (IntKind.u64.wrap (Int.tdiv x0 10)) ((strOfNums y169) ++ x3)) else (none))) else (some x3)
def r1dig.f (k : Nat) (a0 : Int) : Option (ByteArray) := r1dig.l0 k a0 (strOfNums (([(IntKind.u64.wrap (48 + (Int.tmod a0 10))) % 256] : List Int)))
theorem r1dig.mono_l : ∀ k, (∀ y0 y1, LeO (r1dig.l0 k y0 y1) (r1dig.l0 (k + 1) y0 y1))
  | 0 => fun _ _ r h => by simp [r1dig.l0] at h
  | k + 1 => by
    have ih0 := r1dig.mono_l k
    · intro y0 y1
      unfold r1dig.l0
      repeat' first
      | (with_reducible exact ih0 _ _)
      | (with_reducible exact LeO.refl _)
      | (with_reducible exact LeO.none _)
      | (with_reducible refine LeO.ite ?_ ?_)
      | (with_reducible refine LeO.bind ?_ (fun _ => ?_))
      | exact ih0 _ _
      | exact LeO.none _
      | refine LeO.ite ?_ ?_
      | refine LeO.bind ?_ (fun _ => ?_)
theorem r1dig.mono : ∀ a0 k, LeO (r1dig.f k a0) (r1dig.f (k + 1) a0) := by
  intro a0 k
  have ih0 := r1dig.mono_l k
  unfold r1dig.f
  repeat' first
      | (with_reducible exact ih0 _ _)
      | (with_reducible exact LeO.refl _)
      | (with_reducible exact LeO.none _)
      | (with_reducible refine LeO.ite ?_ ?_)
      | (with_reducible refine LeO.bind ?_ (fun _ => ?_))
      | exact ih0 _ _
      | exact LeO.none _
      | refine LeO.ite ?_ ?_
      | refine LeO.bind ?_ (fun _ => ?_)
set_option maxHeartbeats 8000000 in
set_option maxRecDepth 100000 in
theorem r1dig.calls (k : Nat) (a0 : Int) (r : ByteArray) (w : World) (h : r1dig.f k a0 = some r) :
    Calls Try.prog 32 #[.int .u64 a0] w fun e w' => e = .returned (.string r) ∧ Below w.heap.size w w' := by
  have HB := AsZ.mk (Below.refl w.heap.size w)
  have H : (r1dig.l0 k a0 (strOfNums (([(IntKind.u64.wrap (48 + (Int.tmod a0 10))) % 256] : List Int)))) = some r := h
  clear h
  obtain ⟨y166, hy166⟩ : ∃ y_ : List Int, y_ = (([(IntKind.u64.wrap (48 + (Int.tmod a0 10))) % 256] : List Int)) := ⟨_, rfl⟩
  replace H : (r1dig.l0 k a0 (strOfNums y166)) = some r := by first | (rw [hy166]; with_reducible exact H) | (have H2_ := (Option.bind_some _ _).symm.trans H; rw [hy166]; with_reducible exact H2_) | (have H2_ := (Option.bind_some _ _).symm.trans H; with_reducible exact H2_) | with_reducible exact H | (rw [hy166]; exact H) | exact H
  have Ny166 := AsZ.mk hy166
  clear hy166
  have H' := AsZ.mk H
  clear H
  go_enter Try.func32, Try.ntmps32
  go_wp2_with (first | ((with_reducible refine gDs (N := 8) rfl ?_); refine Kd.R_lit (Kd.int .u8) _ 5 ?hg (N := 8) ?hd (xs := ([(IntKind.u64.wrap (48 + (Int.tmod a0 10))) % 256] : List Int)) (inner := [.int .u8 ((IntKind.u64.wrap (48 + (Int.tmod a0 10))) % 256)]) (ok := fun _ => True) (okp := fun _ => True) ?hr ?hp (fun _ hk => hk) trivial (Below.refl _ _) (Nat.le_refl _) (by simp) ?_; (case hd => rfl); (case hg => rfl); (case hr => first | (go_simp; done) | (go_simp; rfl)); (case hp => exact (Reps.one (show Kd.M (Kd.int .u8) _ _ _ ((IntKind.u64.wrap (48 + (Int.tmod a0 10))) % 256) [.int .u8 ((IntKind.u64.wrap (48 + (Int.tmod a0 10))) % 256)] from rfl) (Reps.none _ _))); intro v167 w2 ho3 hb hg_ hnew_; clear hg_ hnew_; (first | rw [← Ny166.out] at ho3 | (simp only [Int.reduceToNat] at ho3; rw [← Ny166.out] at ho3)); have n0_ := AsZ.mk (Kd.R_lower ho3 (zBl (by repeat (first | (with_reducible first | exact HB.out | apply aBl | apply pBd | apply dBl) | exact HB.out)))); have n1_ := AsZ.mk (tBl (by repeat (first | (with_reducible first | exact HB.out | apply aBl | apply pBd | apply dBl) | exact HB.out)) hb); clear HB; have HO168 := n0_; have HB := n1_; clear n0_ n1_; clear hb ho3; have hcv4 := own_string (P := Try.prog) Try.underlying38 Try.underlying5 Try.underlying9 (Kd.own_of_R HO168.out)))
  go_loopg [0, 3] k (fun kq v0 v3 w' => ∃ (x0_1 : Int) (x3_1 : ByteArray), v0 = .int .u64 x0_1 ∧ v3 = .string x3_1 ∧ AsZ (r1dig.l0 kq x0_1 x3_1 = some r) ∧ AsZ (kq ≤ k) ∧ AsZ (Below w.heap.size w w'))
  case atStart => exact ⟨(a0), (strOfNums y166), (by first | rfl | (simp; done) | (simp [*]; done)), (by first | rfl | (simp; done) | (simp [*]; done)), H', ⟨Nat.le_refl _⟩, ⟨by repeat (first | (with_reducible first | exact HB.out | apply aBl | apply pBd | apply dBl) | exact HB.out)⟩⟩
  case round =>
    clear H'
    try clear p2
    try clear c3
    try clear hcv4
    obtain ⟨x0_1, x3_1, rfl, rfl, HA, HK1, HB⟩ := hrel
    cases gk with
    | zero => exact absurd HA.out (by simp [r1dig.l0])
    | succ k1 =>
      have H := HA.out
      clear HA
      simp only [r1dig.l0] at H
      by_cases c5 : x0_1 ≥ 10
      · rw [if_pos c5] at H
        have c5b0 : decide (10 ≤ x0_1) = true := decide_eq_true c5
        clear c5
        obtain ⟨y169, hy169⟩ : ∃ y_ : List Int, y_ = (([(IntKind.u64.wrap (48 + (Int.tmod (IntKind.u64.wrap (Int.tdiv x0_1 10)) 10))) % 256] : List Int)) := ⟨_, rfl⟩
        replace H : (if (strOfNums y169).size + x3_1.size ≤ 9223372036854775807 then (r1dig.l0 k1 (IntKind.u64.wrap (Int.tdiv x0_1 10)) ((strOfNums y169) ++ x3_1)) else (none)) = some r := by first | (rw [hy169]; with_reducible exact H) | (have H2_ := (Option.bind_some _ _).symm.trans H; rw [hy169]; with_reducible exact H2_) | (have H2_ := (Option.bind_some _ _).symm.trans H; with_reducible exact H2_) | with_reducible exact H | (rw [hy169]; exact H) | exact H
        have Ny169 := AsZ.mk hy169
        clear hy169
        by_cases c6 : (strOfNums y169).size + x3_1.size ≤ 9223372036854775807
        · rw [if_pos c6] at H
          have c6b0 := eq_true c6
          have c6b1 : decide ((strOfNums y169).size + x3_1.size ≤ 9223372036854775807) = true := decide_eq_true c6
          try have c6b2 : (9223372036854775807 < (strOfNums y169).size + x3_1.size) = False := eq_false (Nat.not_lt.2 c6)
          have H' := AsZ.mk H
          clear H
          go_wp2_with (first | ((with_reducible refine gDs (N := 18) rfl ?_); refine Kd.R_lit (Kd.int .u8) _ 5 ?hg (N := 18) ?hd (xs := ([(IntKind.u64.wrap (48 + (Int.tmod (IntKind.u64.wrap (Int.tdiv x0_1 10)) 10))) % 256] : List Int)) (inner := [.int .u8 ((IntKind.u64.wrap (48 + (Int.tmod (IntKind.u64.wrap (Int.tdiv x0_1 10)) 10))) % 256)]) (ok := fun _ => True) (okp := fun _ => True) ?hr ?hp (fun _ hk => hk) trivial (Below.refl _ _) (Nat.le_refl _) (by simp) ?_; (case hd => rfl); (case hg => rfl); (case hr => first | (go_simp; done) | (go_simp; rfl)); (case hp => exact (Reps.one (show Kd.M (Kd.int .u8) _ _ _ ((IntKind.u64.wrap (48 + (Int.tmod (IntKind.u64.wrap (Int.tdiv x0_1 10)) 10))) % 256) [.int .u8 ((IntKind.u64.wrap (48 + (Int.tmod (IntKind.u64.wrap (Int.tdiv x0_1 10)) 10))) % 256)] from rfl) (Reps.none _ _))); intro v170 w7 ho8 hb hg_ hnew_; clear hg_ hnew_; (first | rw [← Ny169.out] at ho8 | (simp only [Int.reduceToNat] at ho8; rw [← Ny169.out] at ho8)); have n0_ := AsZ.mk (Kd.R_lower ho8 (zBl (by repeat (first | (with_reducible first | exact HB.out | apply aBl | apply pBd | apply dBl) | exact HB.out)))); have n1_ := AsZ.mk (tBl (by repeat (first | (with_reducible first | exact HB.out | apply aBl | apply pBd | apply dBl) | exact HB.out)) hb); clear HB; have HO171 := n0_; have HB := n1_; clear n0_ n1_; clear hb ho8; have hcv9 := own_string (P := Try.prog) Try.underlying38 Try.underlying5 Try.underlying9 (Kd.own_of_R HO171.out)))
          go_roundg k1
          case measure => have := HK1.out; omega
          case rel => exact ⟨(IntKind.u64.wrap (Int.tdiv x0_1 10)), ((strOfNums y169) ++ x3_1), (by first | rfl | (simp; done) | (simp [*]; done)), (by first | rfl | (simp; done) | (simp [*]; done)), H', ⟨by have := HK1.out; omega⟩, ⟨by repeat (first | (with_reducible first | exact HB.out | apply aBl | apply pBd | apply dBl) | exact HB.out)⟩⟩
        · rw [if_neg c6] at H
          exact absurd H (by simp)
      · rw [if_neg c5] at H
        have c5b0 : decide (10 ≤ x0_1) = false := decide_eq_false c5
        clear c5
        obtain rfl := Option.some.inj H
        go_wp2
        go_ret
        exact ⟨by first | rfl | exact nEm _ | exact eEm _ | (simp [eWn, eWs] <;> rfl) | (simp [*, eWn, eWs] <;> rfl), by repeat (first | (with_reducible first | exact HB.out | apply aBl | apply pBd | apply dBl) | exact HB.out)⟩
def r1Prt.f (k : Nat) (a0 : Int) : Option (ByteArray) := if a0 < 0 then ((r1dig.f k (IntKind.u64.wrap ((IntKind.u64.wrap (wrap64 (-(wrap64 (a0 + 1))))) + 1))).bind fun t172 => (if 1 + t172.size ≤ 9223372036854775807 then (some ((⟨#[45]⟩ : ByteArray) ++ t172)) else (none))) else ((r1dig.f k (IntKind.u64.wrap (a0))).bind fun t173 => (some t173))
theorem r1Prt.mono : ∀ a0 k, LeO (r1Prt.f k a0) (r1Prt.f (k + 1) a0) := by
  intro a0 k
  unfold r1Prt.f
  repeat' first
      | (with_reducible exact r1dig.mono _ _)
      | (with_reducible exact LeO.refl _)
      | (with_reducible exact LeO.none _)
      | (with_reducible refine LeO.ite ?_ ?_)
      | (with_reducible refine LeO.bind ?_ (fun _ => ?_))
      | exact r1dig.mono _ _
      | exact LeO.none _
      | refine LeO.ite ?_ ?_
      | refine LeO.bind ?_ (fun _ => ?_)
set_option maxHeartbeats 8000000 in
set_option maxRecDepth 100000 in
theorem r1Prt.calls (k : Nat) (a0 : Int) (r : ByteArray) (w : World) (h : r1Prt.f k a0 = some r) :
    Calls Try.prog 21 #[.int .i64 a0] w fun e w' => e = .returned (.string r) ∧ Below w.heap.size w w' := by
  have HB := AsZ.mk (Below.refl w.heap.size w)
  have H : (if a0 < 0 then ((r1dig.f k (IntKind.u64.wrap ((IntKind.u64.wrap (wrap64 (-(wrap64 (a0 + 1))))) + 1))).bind fun t172 => (if 1 + t172.size ≤ 9223372036854775807 then (some ((⟨#[45]⟩ : ByteArray) ++ t172)) else (none))) else ((r1dig.f k (IntKind.u64.wrap (a0))).bind fun t173 => (some t173))) = some r := h
  clear h
  by_cases c2 : a0 < 0
  · rw [if_pos c2] at H
    have c2b0 : decide (a0 < 0) = true := decide_eq_true c2
    clear c2
    replace H := Option.bind_eq_some_iff.mp H
    obtain ⟨t172, A30, H⟩ := H
    replace H : (if 1 + t172.size ≤ 9223372036854775807 then (some ((⟨#[45]⟩ : ByteArray) ++ t172)) else (none)) = some r := H
    have A3 := AsZ.mk A30
    clear A30
    by_cases c4 : 1 + t172.size ≤ 9223372036854775807
    · rw [if_pos c4] at H
      have c4b0 := eq_true c4
      have c4b1 : decide (1 + t172.size ≤ 9223372036854775807) = true := decide_eq_true c4
      try have c4b2 : (9223372036854775807 < 1 + t172.size) = False := eq_false (Nat.not_lt.2 c4)
      obtain rfl := Option.some.inj H
      go_enter Try.func21, Try.ntmps21
      go_wp2_with (first | ((with_reducible refine gCa (f := 32) rfl ?_); refine gLl (some 12) rfl rfl Try.func32 (by kernel_rfl) rfl #[.int .u64 (IntKind.u64.wrap ((IntKind.u64.wrap (wrap64 (-(wrap64 (a0 + 1))))) + 1))] rfl (by (try simp only [lsD, lsE, lsF]); first | done | rfl | (simp only [lsG, lsH]; rfl)) ?_; (with_reducible refine (r1dig.calls k (IntKind.u64.wrap ((IntKind.u64.wrap (wrap64 (-(wrap64 (a0 + 1))))) + 1)) t172 _ A3.out).mono ?_); rintro e w5 ⟨rfl, hb⟩; refine ⟨_, rfl, ?_⟩; have n0_ := AsZ.mk (tBl (by repeat (first | (with_reducible first | exact HB.out | apply aBl | apply pBd | apply dBl) | exact HB.out)) hb); clear HB; have HB := n0_; clear n0_; (try clear hb); (try clear hb2); (try clear hk); (try clear hi)))
      go_ret
      exact ⟨by first | rfl | exact nEm _ | exact eEm _ | (simp [eWn, eWs] <;> rfl) | (simp [*, eWn, eWs] <;> rfl), by repeat (first | (with_reducible first | exact HB.out | apply aBl | apply pBd | apply dBl) | exact HB.out)⟩
    · rw [if_neg c4] at H
      exact absurd H (by simp)
  · rw [if_neg c2] at H
    have c2b0 : decide (a0 < 0) = false := decide_eq_false c2
    clear c2
    replace H := Option.bind_eq_some_iff.mp H
    obtain ⟨t173, A60, H⟩ := H
    replace H : (some t173) = some r := H
    have A6 := AsZ.mk A60
    clear A60
    obtain rfl := Option.some.inj H
    go_enter Try.func21, Try.ntmps21
    go_wp2_with (first | ((with_reducible refine gCa (f := 32) rfl ?_); refine gLl (some 16) rfl rfl Try.func32 (by kernel_rfl) rfl #[.int .u64 (IntKind.u64.wrap (a0))] rfl (by (try simp only [lsD, lsE, lsF]); first | done | rfl | (simp only [lsG, lsH]; rfl)) ?_; (with_reducible refine (r1dig.calls k (IntKind.u64.wrap (a0)) t173 _ A6.out).mono ?_); rintro e w7 ⟨rfl, hb⟩; refine ⟨_, rfl, ?_⟩; have n0_ := AsZ.mk (tBl (by repeat (first | (with_reducible first | exact HB.out | apply aBl | apply pBd | apply dBl) | exact HB.out)) hb); clear HB; have HB := n0_; clear n0_; (try clear hb); (try clear hb2); (try clear hk); (try clear hi)))
    go_ret
    exact ⟨by first | rfl | exact nEm _ | exact eEm _ | (simp [eWn, eWs] <;> rfl) | (simp [*, eWn, eWs] <;> rfl), by repeat (first | (with_reducible first | exact HB.out | apply aBl | apply pBd | apply dBl) | exact HB.out)⟩
def spenceref24_Tag.f (k : Nat) (a0 : Int) (a1 : Int) : Option (ByteArray) := (spenceref24_Length.f a0 a1).bind fun t174 => (if t174 < 0 then (some (⟨#[]⟩ : ByteArray)) else ((r1Prt.f k a0).bind fun t175 => (if 1 + t175.size ≤ 9223372036854775807 then (if 1 + t175.size + 1 ≤ 9223372036854775807 then ((r1Prt.f k a1).bind fun t176 => (if 1 + t175.size + 1 + t176.size ≤ 9223372036854775807 then (some ((((⟨#[118]⟩ : ByteArray) ++ t175) ++ (⟨#[45]⟩ : ByteArray)) ++ t176)) else (none))) else (none)) else (none))))
theorem spenceref24_Tag.mono : ∀ a0 a1 k, LeO (spenceref24_Tag.f k a0 a1) (spenceref24_Tag.f (k + 1) a0 a1) := by
  intro a0 a1 k
  unfold spenceref24_Tag.f
  repeat' first
      | (with_reducible exact r1Prt.mono _ _)
      | (with_reducible exact LeO.refl _)
      | (with_reducible exact LeO.none _)
      | (with_reducible refine LeO.ite ?_ ?_)
      | (with_reducible refine LeO.bind ?_ (fun _ => ?_))
      | exact r1Prt.mono _ _
      | exact LeO.none _
      | refine LeO.ite ?_ ?_
      | refine LeO.bind ?_ (fun _ => ?_)
set_option maxHeartbeats 8000000 in
set_option maxRecDepth 100000 in
theorem spenceref24_Tag.calls (k : Nat) (a0 : Int) (a1 : Int) (r : ByteArray) (w : World) (h : spenceref24_Tag.f k a0 a1 = some r) :
    Calls Try.prog 18 #[.int .i64 a0, .int .i64 a1] w fun e w' => e = .returned (.string r) ∧ Below w.heap.size w w' := by
  have HB := AsZ.mk (Below.refl w.heap.size w)
  have H : ((spenceref24_Length.f a0 a1).bind fun t174 => (if t174 < 0 then (some (⟨#[]⟩ : ByteArray)) else ((r1Prt.f k a0).bind fun t175 => (if 1 + t175.size ≤ 9223372036854775807 then (if 1 + t175.size + 1 ≤ 9223372036854775807 then ((r1Prt.f k a1).bind fun t176 => (if 1 + t175.size + 1 + t176.size ≤ 9223372036854775807 then (some ((((⟨#[118]⟩ : ByteArray) ++ t175) ++ (⟨#[45]⟩ : ByteArray)) ++ t176)) else (none))) else (none)) else (none))))) = some r := h
  clear h
  replace H := Option.bind_eq_some_iff.mp H
  obtain ⟨t174, A30, H⟩ := H
  replace H : (if t174 < 0 then (some (⟨#[]⟩ : ByteArray)) else ((r1Prt.f k a0).bind fun t175 => (if 1 + t175.size ≤ 9223372036854775807 then (if 1 + t175.size + 1 ≤ 9223372036854775807 then ((r1Prt.f k a1).bind fun t176 => (if 1 + t175.size + 1 + t176.size ≤ 9223372036854775807 then (some ((((⟨#[118]⟩ : ByteArray) ++ t175) ++ (⟨#[45]⟩ : ByteArray)) ++ t176)) else (none))) else (none)) else (none)))) = some r := H
  have A3 := AsZ.mk A30
  clear A30
  by_cases c4 : t174 < 0
  · rw [if_pos c4] at H
    have c4b0 : decide (t174 < 0) = true := decide_eq_true c4
    clear c4
    obtain rfl := Option.some.inj H
    go_enter Try.func18, Try.ntmps18
    go_wp2_with (first | ((with_reducible refine gCa (f := 19) rfl ?_); refine gLl (some 7) rfl rfl Try.func19 (by kernel_rfl) rfl #[.int .i64 a0, .int .i64 a1] rfl (by (try simp only [lsD, lsE, lsF]); first | done | rfl | (simp only [lsG, lsH]; rfl)) ?_; (with_reducible refine (spenceref24_Length.calls a0 a1 t174 _ A3.out).mono ?_); rintro e w' ⟨rfl, ⟨nd, rfl⟩⟩; refine ⟨_, rfl, ?_⟩))
    go_ret
    exact ⟨by first | rfl | exact nEm _ | exact eEm _ | (simp [eWn, eWs] <;> rfl) | (simp [*, eWn, eWs] <;> rfl), by repeat (first | (with_reducible first | exact HB.out | apply aBl | apply pBd | apply dBl) | exact HB.out)⟩
  · rw [if_neg c4] at H
    have c4b0 : decide (t174 < 0) = false := decide_eq_false c4
    clear c4
    replace H := Option.bind_eq_some_iff.mp H
    obtain ⟨t175, A50, H⟩ := H
    replace H : (if 1 + t175.size ≤ 9223372036854775807 then (if 1 + t175.size + 1 ≤ 9223372036854775807 then ((r1Prt.f k a1).bind fun t176 => (if 1 + t175.size + 1 + t176.size ≤ 9223372036854775807 then (some ((((⟨#[118]⟩ : ByteArray) ++ t175) ++ (⟨#[45]⟩ : ByteArray)) ++ t176)) else (none))) else (none)) else (none)) = some r := H
    have A5 := AsZ.mk A50
    clear A50
    by_cases c6 : 1 + t175.size ≤ 9223372036854775807
    · rw [if_pos c6] at H
      have c6b0 := eq_true c6
      have c6b1 : decide (1 + t175.size ≤ 9223372036854775807) = true := decide_eq_true c6
      try have c6b2 : (9223372036854775807 < 1 + t175.size) = False := eq_false (Nat.not_lt.2 c6)
      by_cases c7 : 1 + t175.size + 1 ≤ 9223372036854775807
      · rw [if_pos c7] at H
        have c7b0 := eq_true c7
        have c7b1 : decide (1 + t175.size + 1 ≤ 9223372036854775807) = true := decide_eq_true c7
        try have c7b2 : (9223372036854775807 < 1 + t175.size + 1) = False := eq_false (Nat.not_lt.2 c7)
        replace H := Option.bind_eq_some_iff.mp H
        obtain ⟨t176, A80, H⟩ := H
        replace H : (if 1 + t175.size + 1 + t176.size ≤ 9223372036854775807 then (some ((((⟨#[118]⟩ : ByteArray) ++ t175) ++ (⟨#[45]⟩ : ByteArray)) ++ t176)) else (none)) = some r := H
        have A8 := AsZ.mk A80
        clear A80
        by_cases c9 : 1 + t175.size + 1 + t176.size ≤ 9223372036854775807
        · rw [if_pos c9] at H
          have c9b0 := eq_true c9
          have c9b1 : decide (1 + t175.size + 1 + t176.size ≤ 9223372036854775807) = true := decide_eq_true c9
          try have c9b2 : (9223372036854775807 < 1 + t175.size + 1 + t176.size) = False := eq_false (Nat.not_lt.2 c9)
          obtain rfl := Option.some.inj H
          go_enter Try.func18, Try.ntmps18
          go_wp2_with (first | ((with_reducible refine gCa (f := 19) rfl ?_); refine gLl (some 7) rfl rfl Try.func19 (by kernel_rfl) rfl #[.int .i64 a0, .int .i64 a1] rfl (by (try simp only [lsD, lsE, lsF]); first | done | rfl | (simp only [lsG, lsH]; rfl)) ?_; (with_reducible refine (spenceref24_Length.calls a0 a1 t174 _ A3.out).mono ?_); rintro e w' ⟨rfl, ⟨nd, rfl⟩⟩; refine ⟨_, rfl, ?_⟩) | ((with_reducible refine gCa (f := 21) rfl ?_); refine gLl (some 10) rfl rfl Try.func21 (by kernel_rfl) rfl #[.int .i64 a0] rfl (by (try simp only [lsD, lsE, lsF]); first | done | rfl | (simp only [lsG, lsH]; rfl)) ?_; (with_reducible refine (r1Prt.calls k a0 t175 _ A5.out).mono ?_); rintro e w10 ⟨rfl, hb⟩; refine ⟨_, rfl, ?_⟩; have n0_ := AsZ.mk (tBl (by repeat (first | (with_reducible first | exact HB.out | apply aBl | apply pBd | apply dBl) | exact HB.out)) hb); clear HB; have HB := n0_; clear n0_; (try clear hb); (try clear hb2); (try clear hk); (try clear hi)) | ((with_reducible refine gCa (f := 21) rfl ?_); refine gLl (some 14) rfl rfl Try.func21 (by kernel_rfl) rfl #[.int .i64 a1] rfl (by (try simp only [lsD, lsE, lsF]); first | done | rfl | (simp only [lsG, lsH]; rfl)) ?_; (with_reducible refine (r1Prt.calls k a1 t176 _ A8.out).mono ?_); rintro e w11 ⟨rfl, hb⟩; refine ⟨_, rfl, ?_⟩; have n0_ := AsZ.mk (tBl (by repeat (first | (with_reducible first | exact HB.out | apply aBl | apply pBd | apply dBl) | exact HB.out)) hb); clear HB; have HB := n0_; clear n0_; (try clear hb); (try clear hb2); (try clear hk); (try clear hi)))
          go_ret
          exact ⟨by first | rfl | exact nEm _ | exact eEm _ | (simp [eWn, eWs] <;> rfl) | (simp [*, eWn, eWs] <;> rfl), by repeat (first | (with_reducible first | exact HB.out | apply aBl | apply pBd | apply dBl) | exact HB.out)⟩
        · rw [if_neg c9] at H
          exact absurd H (by simp)
      · rw [if_neg c7] at H
        exact absurd H (by simp)
    · rw [if_neg c6] at H
      exact absurd H (by simp)
def spenceref04_Right.f (a0_0 : Int) (a0_1 : Int) : Option (Bool) := if a0_0 ≥ 0 then (if a0_1 > a0_0 then (some (decide (a0_1 ≤ 4611686018427387903))) else (some false)) else (some false)
set_option maxHeartbeats 8000000 in
set_option maxRecDepth 100000 in
theorem spenceref04_Right.calls (a0_0 : Int) (a0_1 : Int) (r : Bool) (w : World) (h : spenceref04_Right.f a0_0 a0_1 = some r) :
    Calls Try.prog 20 #[.agg #[.int .i64 a0_0, .int .i64 a0_1]] w fun e w' => e = .returned (.bool r) ∧ Below w.heap.size w w' := by
  have hu30 := Try.underlying30
  have HB := AsZ.mk (Below.refl w.heap.size w)
  have H : (if a0_0 ≥ 0 then (if a0_1 > a0_0 then (some (decide (a0_1 ≤ 4611686018427387903))) else (some false)) else (some false)) = some r := h
  clear h
  by_cases c2 : a0_0 ≥ 0
  · rw [if_pos c2] at H
    have c2b0 : decide (0 ≤ a0_0) = true := decide_eq_true c2
    clear c2
    by_cases c3 : a0_1 > a0_0
    · rw [if_pos c3] at H
      have c3b0 : decide (a0_0 < a0_1) = true := decide_eq_true c3
      clear c3
      obtain rfl := Option.some.inj H
      go_enter Try.func20, Try.ntmps20
      go_wp2_with (first | ((with_reducible refine gDs (N := 1) rfl ?_); refine bEv ?hg (N := 1) ?hd (cs := #[.int .i64 a0_0, .int .i64 a0_1]) (t := 30) ?hr ?_; (case hd => rfl); (case hg => rfl); (case hr => first | (go_simp; done) | (go_simp; rfl)); intro gb177 hg w4 hbox hb; have n0_ := AsZ.mk (tBl (by repeat (first | (with_reducible first | exact HB.out | apply aBl | apply pBd | apply dBl) | exact HB.out)) hb); have n1_ := AsZ.mk (hbox); have n2_ := AsZ.mk ((by rw [hg]; exact (zBl (by repeat (first | (with_reducible first | exact HB.out | apply aBl | apply pBd | apply dBl) | exact HB.out))) : w.heap.size ≤ gb177)); have n3_ := AsZ.mk ((by rw [hg]; exact (zBl (by repeat (first | (with_reducible first | exact HB.out | apply aBl | apply pBd | apply dBl) | exact HB.out))) : w.heap.size ≤ gb177)); clear HB; have HB := n0_; have BK177 := n1_; have GW177 := n2_; have GE177 := n3_; clear n0_ n1_ n2_ n3_; clear hb hbox hg; obtain ⟨hcz5_0, hcz5_1⟩ := celN2 BK177.out; obtain ⟨hfz5_0, hfz5_1⟩ := fzN2 BK177.out))
      go_ret
      exact ⟨by first | rfl | exact nEm _ | exact eEm _ | (simp [eWn, eWs] <;> rfl) | (simp [*, eWn, eWs] <;> rfl), by repeat (first | (with_reducible first | exact HB.out | apply aBl | apply pBd | apply dBl | refine sBl ?_ GE177.out) | exact HB.out)⟩
    · rw [if_neg c3] at H
      have c3b0 : decide (a0_0 < a0_1) = false := decide_eq_false c3
      clear c3
      obtain rfl := Option.some.inj H
      go_enter Try.func20, Try.ntmps20
      go_wp2_with (first | ((with_reducible refine gDs (N := 1) rfl ?_); refine bEv ?hg (N := 1) ?hd (cs := #[.int .i64 a0_0, .int .i64 a0_1]) (t := 30) ?hr ?_; (case hd => rfl); (case hg => rfl); (case hr => first | (go_simp; done) | (go_simp; rfl)); intro gb177 hg w6 hbox hb; have n0_ := AsZ.mk (tBl (by repeat (first | (with_reducible first | exact HB.out | apply aBl | apply pBd | apply dBl) | exact HB.out)) hb); have n1_ := AsZ.mk (hbox); have n2_ := AsZ.mk ((by rw [hg]; exact (zBl (by repeat (first | (with_reducible first | exact HB.out | apply aBl | apply pBd | apply dBl) | exact HB.out))) : w.heap.size ≤ gb177)); have n3_ := AsZ.mk ((by rw [hg]; exact (zBl (by repeat (first | (with_reducible first | exact HB.out | apply aBl | apply pBd | apply dBl) | exact HB.out))) : w.heap.size ≤ gb177)); clear HB; have HB := n0_; have BK177 := n1_; have GW177 := n2_; have GE177 := n3_; clear n0_ n1_ n2_ n3_; clear hb hbox hg; obtain ⟨hcz7_0, hcz7_1⟩ := celN2 BK177.out; obtain ⟨hfz7_0, hfz7_1⟩ := fzN2 BK177.out))
      go_ret
      exact ⟨by first | rfl | exact nEm _ | exact eEm _ | (simp [eWn, eWs] <;> rfl) | (simp [*, eWn, eWs] <;> rfl), by repeat (first | (with_reducible first | exact HB.out | apply aBl | apply pBd | apply dBl | refine sBl ?_ GE177.out) | exact HB.out)⟩
  · rw [if_neg c2] at H
    have c2b0 : decide (0 ≤ a0_0) = false := decide_eq_false c2
    clear c2
    obtain rfl := Option.some.inj H
    go_enter Try.func20, Try.ntmps20
    go_wp2_with (first | ((with_reducible refine gDs (N := 1) rfl ?_); refine bEv ?hg (N := 1) ?hd (cs := #[.int .i64 a0_0, .int .i64 a0_1]) (t := 30) ?hr ?_; (case hd => rfl); (case hg => rfl); (case hr => first | (go_simp; done) | (go_simp; rfl)); intro gb177 hg w8 hbox hb; have n0_ := AsZ.mk (tBl (by repeat (first | (with_reducible first | exact HB.out | apply aBl | apply pBd | apply dBl) | exact HB.out)) hb); have n1_ := AsZ.mk (hbox); have n2_ := AsZ.mk ((by rw [hg]; exact (zBl (by repeat (first | (with_reducible first | exact HB.out | apply aBl | apply pBd | apply dBl) | exact HB.out))) : w.heap.size ≤ gb177)); have n3_ := AsZ.mk ((by rw [hg]; exact (zBl (by repeat (first | (with_reducible first | exact HB.out | apply aBl | apply pBd | apply dBl) | exact HB.out))) : w.heap.size ≤ gb177)); clear HB; have HB := n0_; have BK177 := n1_; have GW177 := n2_; have GE177 := n3_; clear n0_ n1_ n2_ n3_; clear hb hbox hg; obtain ⟨hcz9_0, hcz9_1⟩ := celN2 BK177.out; obtain ⟨hfz9_0, hfz9_1⟩ := fzN2 BK177.out))
    go_ret
    exact ⟨by first | rfl | exact nEm _ | exact eEm _ | (simp [eWn, eWs] <;> rfl) | (simp [*, eWn, eWs] <;> rfl), by repeat (first | (with_reducible first | exact HB.out | apply aBl | apply pBd | apply dBl | refine sBl ?_ GE177.out) | exact HB.out)⟩
end Go.Proofs.Ytpphnjmppkbpbaa.PAll
namespace Go.Proofs.Ytpphnjmppkbpbaa.PAll
open Go.RowKit Go.Proofs.Ytpphnjmppkbpbaa.Xw Go.Proofs.YtpphnjmppkbpbaaW.PrintWords Go.Proofs.YtpphnjmppkbpbaaW.PrintLast Go.Proofs.YtpphnjmppkbpbaaW.PrintMore
attribute [local go_sem] max2_int min2_int max_two min_two max_three min_three max_four min_four
set_option linter.unusedVariables false
set_option linter.unusedSimpArgs false
attribute [local go_sem high] eqA30
def r4RC.j0 : Nat → Bool → Bool → Int → Int → Int → Option (Bool)
  | 0, _, _, _, _, _ => none
  | k + 1, x10, x179000, x179001, x179002, x179003 => if x10 = true then (some false) else (if x179000 = true then ((spenceref04_Right.f x179001 x179002).bind fun t179 => (if t179 = true then (if x179003 = (-1) then (some true) else (some (decide (x179002 ≤ x179003)))) else (some false))) else (if (x179001 == 0 && (x179002 == 0)) = true then (some (decide (x179003 ≥ 0))) else (some false)))
def r4RC.f (k : Nat) (a0_0 : Bool) (a0_1 : Int) (a0_2 : Int) (a0_3 : Int) : Option (Bool) := if a0_3 < (-1) then (r4RC.j0 k true a0_0 a0_1 a0_2 a0_3) else (r4RC.j0 k (decide (a0_3 > 4611686018427387903)) a0_0 a0_1 a0_2 a0_3)
theorem r4RC.mono_l : ∀ k, (∀ y0 y1 y2 y3 y4, LeO (r4RC.j0 k y0 y1 y2 y3 y4) (r4RC.j0 (k + 1) y0 y1 y2 y3 y4))
  | 0 => fun _ _ _ _ _ r h => by simp [r4RC.j0] at h
  | k + 1 => by
    have ih0 := r4RC.mono_l k
    · intro y0 y1 y2 y3 y4
      unfold r4RC.j0
      repeat' first
      | (with_reducible exact ih0 _ _ _ _ _)
      | (with_reducible exact LeO.refl _)
      | (with_reducible exact LeO.none _)
      | (with_reducible refine LeO.ite ?_ ?_)
      | (with_reducible refine LeO.bind ?_ (fun _ => ?_))
      | exact ih0 _ _ _ _ _
      | exact LeO.none _
      | refine LeO.ite ?_ ?_
      | refine LeO.bind ?_ (fun _ => ?_)
theorem r4RC.mono : ∀ a0 a1 a2 a3 k, LeO (r4RC.f k a0 a1 a2 a3) (r4RC.f (k + 1) a0 a1 a2 a3) := by
  intro a0 a1 a2 a3 k
  have ih0 := r4RC.mono_l k
  unfold r4RC.f
  repeat' first
      | (with_reducible exact ih0 _ _ _ _ _)
      | (with_reducible exact LeO.refl _)
      | (with_reducible exact LeO.none _)
      | (with_reducible refine LeO.ite ?_ ?_)
      | (with_reducible refine LeO.bind ?_ (fun _ => ?_))
      | exact ih0 _ _ _ _ _
      | exact LeO.none _
      | refine LeO.ite ?_ ?_
      | refine LeO.bind ?_ (fun _ => ?_)
set_option maxHeartbeats 8000000 in
set_option maxRecDepth 100000 in
theorem r4RC.calls (k : Nat) (a0_0 : Bool) (a0_1 : Int) (a0_2 : Int) (a0_3 : Int) (r : Bool) (w : World) (h : r4RC.f k a0_0 a0_1 a0_2 a0_3 = some r) :
    Calls Try.prog 33 #[.agg #[.bool a0_0, .int .i64 a0_1, .int .i64 a0_2, .int .i64 a0_3]] w fun e w' => e = .returned (.bool r) ∧ Below w.heap.size w w' := by
  have hu59 := Try.underlying59
  have hu30 := Try.underlying30
  have HB := AsZ.mk (Below.refl w.heap.size w)
  have H : (if a0_3 < (-1) then (r4RC.j0 k true a0_0 a0_1 a0_2 a0_3) else (r4RC.j0 k (decide (a0_3 > 4611686018427387903)) a0_0 a0_1 a0_2 a0_3)) = some r := h
  clear h
  have HC2 := AsZ.mk H
  clear H
  go_enter Try.func33, Try.ntmps33
  go_upto_region 1 with (first | ((with_reducible refine gDs (N := 1) rfl ?_); refine bEv ?hg (N := 1) ?hd (cs := #[.bool a0_0, .int .i64 a0_1, .int .i64 a0_2, .int .i64 a0_3]) (t := 59) ?hr ?_; (case hd => rfl); (case hg => rfl); (case hr => first | (go_simp; done) | (go_simp; rfl)); intro gb178 hg w3 hbox hb; have n0_ := AsZ.mk (tBl (by repeat (first | (with_reducible first | exact HB.out | apply aBl | apply pBd | apply dBl) | exact HB.out)) hb); have n1_ := AsZ.mk (hbox); have n2_ := AsZ.mk ((by rw [hg]; exact (zBl (by repeat (first | (with_reducible first | exact HB.out | apply aBl | apply pBd | apply dBl) | exact HB.out))) : w.heap.size ≤ gb178)); have n3_ := AsZ.mk ((by rw [hg]; exact (zBl (by repeat (first | (with_reducible first | exact HB.out | apply aBl | apply pBd | apply dBl) | exact HB.out))) : w.heap.size ≤ gb178)); clear HB; have HB := n0_; have BK178 := n1_; have GW178 := n2_; have GE178 := n3_; clear n0_ n1_ n2_ n3_; clear hb hbox hg))
  (try simp only [Act.put, lsA, lsB, lsC])
  go_cut [10] (fun v10 wc => ∃ (kq : Nat) (x10_1 : Bool), v10 = .bool x10_1 ∧ AsZ (r4RC.j0 kq x10_1 a0_0 a0_1 a0_2 a0_3 = some r) ∧ AsZ (kq ≤ k) ∧ AsZ (wc.heap[gb178]? = some (.cells #[.bool a0_0, .int .i64 a0_1, .int .i64 a0_2, .int .i64 a0_3] 59 (0, 0))) ∧ AsZ (Below w.heap.size w wc))
  case first =>
    have H := HC2.out
    clear HC2
    by_cases c4 : a0_3 < (-1)
    · rw [if_pos c4] at H
      have c4b0 : decide (a0_3 < (-1)) = true := decide_eq_true c4
      clear c4
      (first | rw [c4b0] | (simp only [i64_w, i32_w]; rw [c4b0]) | skip)
      have H' := AsZ.mk H
      clear H
      obtain ⟨hcz5_0, hcz5_1, hcz5_2, hcz5_3⟩ := celN4 BK178.out
      obtain ⟨hfz5_0, hfz5_1, hfz5_2, hfz5_3⟩ := fzN4 BK178.out
      go_wp2
      go_meet
      case rel => exact ⟨_, (true), (by first | rfl | (simp; done) | (simp [*]; done)), H', ⟨by first | omega | exact Nat.le_refl _⟩, ⟨by (with_reducible repeat first | apply bDn | apply bDr | apply bAl); exact BK178.out⟩, ⟨by repeat (first | (with_reducible first | exact HB.out | apply aBl | apply pBd | apply dBl | refine sBl ?_ GE178.out) | exact HB.out)⟩⟩
    · rw [if_neg c4] at H
      have c4b0 : decide (a0_3 < (-1)) = false := decide_eq_false c4
      clear c4
      (first | rw [c4b0] | (simp only [i64_w, i32_w]; rw [c4b0]) | skip)
      have H' := AsZ.mk H
      clear H
      obtain ⟨hcz6_0, hcz6_1, hcz6_2, hcz6_3⟩ := celN4 BK178.out
      obtain ⟨hfz6_0, hfz6_1, hfz6_2, hfz6_3⟩ := fzN4 BK178.out
      go_wp2
      go_meet
      case rel => exact ⟨_, (decide (a0_3 > 4611686018427387903)), (by first | rfl | (simp; done) | (simp [*]; done)), H', ⟨by first | omega | exact Nat.le_refl _⟩, ⟨by (with_reducible repeat first | apply bDn | apply bDr | apply bAl); exact BK178.out⟩, ⟨by repeat (first | (with_reducible first | exact HB.out | apply aBl | apply pBd | apply dBl | refine sBl ?_ GE178.out) | exact HB.out)⟩⟩
  case rest =>
    clear HC2
    try clear p2
    try clear c3
    try clear c4
    try clear c4b0
    try clear hcz5_0
    try clear hcz5_1
    try clear hcz5_2
    try clear hcz5_3
    try clear hcz6_0
    try clear hcz6_1
    try clear hcz6_2
    try clear hcz6_3
    try clear hfz5_0
    try clear hfz5_1
    try clear hfz5_2
    try clear hfz5_3
    try clear hfz6_0
    try clear hfz6_1
    try clear hfz6_2
    try clear hfz6_3
    obtain ⟨kq, x10_1, rfl, HA, HJ1, BK178, HB⟩ := hcut
    cases kq with
    | zero => exact absurd HA.out (by simp [r4RC.j0])
    | succ kj1 =>
      have H := HA.out
      clear HA
      simp only [r4RC.j0] at H
      by_cases c7 : x10_1 = true
      · subst c7
        have H1 : (some false) = some r := by rw [if_pos rfl] at H; exact H
        clear H
        have H := H1
        clear H1
        obtain rfl := Option.some.inj H
        go_wp2
        go_ret
        exact ⟨by first | rfl | exact nEm _ | exact eEm _ | (simp [eWn, eWs] <;> rfl) | (simp [*, eWn, eWs] <;> rfl), by repeat (first | (with_reducible first | exact HB.out | apply aBl | apply pBd | apply dBl | refine sBl ?_ GE178.out) | exact HB.out)⟩
      · replace c7 := Bool.eq_false_iff.mpr c7
        subst c7
        have H1 : (if a0_0 = true then ((spenceref04_Right.f a0_1 a0_2).bind fun t179 => (if t179 = true then (if a0_3 = (-1) then (some true) else (some (decide (a0_2 ≤ a0_3)))) else (some false))) else (if (a0_1 == 0 && (a0_2 == 0)) = true then (some (decide (a0_3 ≥ 0))) else (some false))) = some r := by rw [if_neg (show ¬ (false = true) by decide)] at H; exact H
        clear H
        have H := H1
        clear H1
        by_cases c8 : a0_0 = true
        · subst c8
          have H1 : ((spenceref04_Right.f a0_1 a0_2).bind fun t179 => (if t179 = true then (if a0_3 = (-1) then (some true) else (some (decide (a0_2 ≤ a0_3)))) else (some false))) = some r := by rw [if_pos rfl] at H; exact H
          clear H
          have H := H1
          clear H1
          replace H := Option.bind_eq_some_iff.mp H
          obtain ⟨t179, A90, H⟩ := H
          replace H : (if t179 = true then (if a0_3 = (-1) then (some true) else (some (decide (a0_2 ≤ a0_3)))) else (some false)) = some r := H
          have A9 := AsZ.mk A90
          clear A90
          by_cases c10 : t179 = true
          · subst c10
            have H1 : (if a0_3 = (-1) then (some true) else (some (decide (a0_2 ≤ a0_3)))) = some r := by rw [if_pos rfl] at H; exact H
            clear H
            have H := H1
            clear H1
            by_cases c11 : a0_3 = (-1)
            · rw [if_pos c11] at H
              have c11b0 : (a0_3 == (-1)) = true := beq_iff_eq.mpr c11
              have c11b1 : (a0_3 != (-1)) = false := bne_eq_false_iff_eq.mpr c11
              clear c11
              obtain rfl := Option.some.inj H
              obtain ⟨hcz12_0, hcz12_1, hcz12_2, hcz12_3⟩ := celN4 BK178.out
              obtain ⟨hfz12_0, hfz12_1, hfz12_2, hfz12_3⟩ := fzN4 BK178.out
              go_wp2_with (first | ((with_reducible refine gCa (f := 20) rfl ?_); refine gLl (some 25) rfl rfl Try.func20 (by kernel_rfl) rfl #[.agg #[.int .i64 a0_1, .int .i64 a0_2]] rfl (by (try simp only [lsD, lsE, lsF]); first | done | rfl | (simp only [lsG, lsH]; rfl)) ?_; (with_reducible refine (spenceref04_Right.calls a0_1 a0_2 true _ A9.out).mono ?_); rintro e w13 ⟨rfl, hb⟩; refine ⟨_, rfl, ?_⟩; have n0_ := AsZ.mk (bBl (g := gb178) (o := .cells #[.bool true, .int .i64 a0_1, .int .i64 a0_2, .int .i64 a0_3] 59 (0, 0)) (by (with_reducible repeat first | apply bDn | apply bDr | apply bAl); exact BK178.out) hb); have n1_ := AsZ.mk (tBl (by repeat (first | (with_reducible first | exact HB.out | apply aBl | apply pBd | apply dBl | refine sBl ?_ GE178.out) | exact HB.out)) hb); clear BK178; clear HB; have BK178 := n0_; have HB := n1_; clear n0_ n1_; (try clear hb); (try clear hb2); (try clear hk); (try clear hi); obtain ⟨hcz14_0, hcz14_1, hcz14_2, hcz14_3⟩ := celN4 BK178.out; obtain ⟨hfz14_0, hfz14_1, hfz14_2, hfz14_3⟩ := fzN4 BK178.out))
              go_ret
              exact ⟨by first | rfl | exact nEm _ | exact eEm _ | (simp [eWn, eWs] <;> rfl) | (simp [*, eWn, eWs] <;> rfl), by repeat (first | (with_reducible first | exact HB.out | apply aBl | apply pBd | apply dBl | refine sBl ?_ GE178.out) | exact HB.out)⟩
            · rw [if_neg c11] at H
              have c11b0 : (a0_3 == (-1)) = false := beq_eq_false_iff_ne.mpr c11
              have c11b1 : (a0_3 != (-1)) = true := bne_iff_ne.mpr c11
              obtain rfl := Option.some.inj H
              obtain ⟨hcz15_0, hcz15_1, hcz15_2, hcz15_3⟩ := celN4 BK178.out
              obtain ⟨hfz15_0, hfz15_1, hfz15_2, hfz15_3⟩ := fzN4 BK178.out
              go_wp2_with (first | ((with_reducible refine gCa (f := 20) rfl ?_); refine gLl (some 25) rfl rfl Try.func20 (by kernel_rfl) rfl #[.agg #[.int .i64 a0_1, .int .i64 a0_2]] rfl (by (try simp only [lsD, lsE, lsF]); first | done | rfl | (simp only [lsG, lsH]; rfl)) ?_; (with_reducible refine (spenceref04_Right.calls a0_1 a0_2 true _ A9.out).mono ?_); rintro e w16 ⟨rfl, hb⟩; refine ⟨_, rfl, ?_⟩; have n0_ := AsZ.mk (bBl (g := gb178) (o := .cells #[.bool true, .int .i64 a0_1, .int .i64 a0_2, .int .i64 a0_3] 59 (0, 0)) (by (with_reducible repeat first | apply bDn | apply bDr | apply bAl); exact BK178.out) hb); have n1_ := AsZ.mk (tBl (by repeat (first | (with_reducible first | exact HB.out | apply aBl | apply pBd | apply dBl | refine sBl ?_ GE178.out) | exact HB.out)) hb); clear BK178; clear HB; have BK178 := n0_; have HB := n1_; clear n0_ n1_; (try clear hb); (try clear hb2); (try clear hk); (try clear hi); obtain ⟨hcz17_0, hcz17_1, hcz17_2, hcz17_3⟩ := celN4 BK178.out; obtain ⟨hfz17_0, hfz17_1, hfz17_2, hfz17_3⟩ := fzN4 BK178.out))
              go_ret
              exact ⟨by first | rfl | exact nEm _ | exact eEm _ | (simp [eWn, eWs] <;> rfl) | (simp [*, eWn, eWs] <;> rfl), by repeat (first | (with_reducible first | exact HB.out | apply aBl | apply pBd | apply dBl | refine sBl ?_ GE178.out) | exact HB.out)⟩
          · replace c10 := Bool.eq_false_iff.mpr c10
            subst c10
            have H1 : (some false) = some r := by rw [if_neg (show ¬ (false = true) by decide)] at H; exact H
            clear H
            have H := H1
            clear H1
            obtain rfl := Option.some.inj H
            obtain ⟨hcz18_0, hcz18_1, hcz18_2, hcz18_3⟩ := celN4 BK178.out
            obtain ⟨hfz18_0, hfz18_1, hfz18_2, hfz18_3⟩ := fzN4 BK178.out
            go_wp2_with (first | ((with_reducible refine gCa (f := 20) rfl ?_); refine gLl (some 25) rfl rfl Try.func20 (by kernel_rfl) rfl #[.agg #[.int .i64 a0_1, .int .i64 a0_2]] rfl (by (try simp only [lsD, lsE, lsF]); first | done | rfl | (simp only [lsG, lsH]; rfl)) ?_; (with_reducible refine (spenceref04_Right.calls a0_1 a0_2 false _ A9.out).mono ?_); rintro e w19 ⟨rfl, hb⟩; refine ⟨_, rfl, ?_⟩; have n0_ := AsZ.mk (bBl (g := gb178) (o := .cells #[.bool true, .int .i64 a0_1, .int .i64 a0_2, .int .i64 a0_3] 59 (0, 0)) (by (with_reducible repeat first | apply bDn | apply bDr | apply bAl); exact BK178.out) hb); have n1_ := AsZ.mk (tBl (by repeat (first | (with_reducible first | exact HB.out | apply aBl | apply pBd | apply dBl | refine sBl ?_ GE178.out) | exact HB.out)) hb); clear BK178; clear HB; have BK178 := n0_; have HB := n1_; clear n0_ n1_; (try clear hb); (try clear hb2); (try clear hk); (try clear hi)))
            go_ret
            exact ⟨by first | rfl | exact nEm _ | exact eEm _ | (simp [eWn, eWs] <;> rfl) | (simp [*, eWn, eWs] <;> rfl), by repeat (first | (with_reducible first | exact HB.out | apply aBl | apply pBd | apply dBl | refine sBl ?_ GE178.out) | exact HB.out)⟩
        · replace c8 := Bool.eq_false_iff.mpr c8
          subst c8
          have H1 : (if (a0_1 == 0 && (a0_2 == 0)) = true then (some (decide (a0_3 ≥ 0))) else (some false)) = some r := by rw [if_neg (show ¬ (false = true) by decide)] at H; exact H
          clear H
          have H := H1
          clear H1
          by_cases c20 : (a0_1 == 0 && (a0_2 == 0)) = true
          · rw [if_pos c20] at H
            have c20b0 : (a0_1 == 0 && (a0_2 == 0)) = true := c20
            (try (have c20b1 : decide (a0_1 = 0 && (a0_2 == 0)) = true := by simpa using c20))
            (try (have c20b2 : (a0_1 == 0 && (a0_2 == 0)) = true := by simpa using c20))
            clear c20
            obtain rfl := Option.some.inj H
            obtain ⟨hcz21_0, hcz21_1, hcz21_2, hcz21_3⟩ := celN4 BK178.out
            obtain ⟨hfz21_0, hfz21_1, hfz21_2, hfz21_3⟩ := fzN4 BK178.out
            go_wp2
            go_ret
            exact ⟨by first | rfl | exact nEm _ | exact eEm _ | (simp [eWn, eWs] <;> rfl) | (simp [*, eWn, eWs] <;> rfl), by repeat (first | (with_reducible first | exact HB.out | apply aBl | apply pBd | apply dBl | refine sBl ?_ GE178.out) | exact HB.out)⟩
          · rw [if_neg c20] at H
            have c20b0 : (a0_1 == 0 && (a0_2 == 0)) = false := by simpa using c20
            (try (have c20b1 : decide (a0_1 = 0 && (a0_2 == 0)) = false := by simpa using c20))
            (try (have c20b2 : (a0_1 == 0 && (a0_2 == 0)) = false := by simpa using c20))
            (try (have c20b3 : ¬ (a0_1 = 0 && (a0_2 == 0)) := by simpa using c20))
            clear c20
            obtain rfl := Option.some.inj H
            obtain ⟨hcz22_0, hcz22_1, hcz22_2, hcz22_3⟩ := celN4 BK178.out
            obtain ⟨hfz22_0, hfz22_1, hfz22_2, hfz22_3⟩ := fzN4 BK178.out
            go_wp2
            go_ret
            exact ⟨by first | rfl | exact nEm _ | exact eEm _ | (simp [eWn, eWs] <;> rfl) | (simp [*, eWn, eWs] <;> rfl), by repeat (first | (with_reducible first | exact HB.out | apply aBl | apply pBd | apply dBl | refine sBl ?_ GE178.out) | exact HB.out)⟩
end Go.Proofs.Ytpphnjmppkbpbaa.PAll
namespace Go.Proofs.Ytpphnjmppkbpbaa.PAll
open Go.RowKit Go.Proofs.Ytpphnjmppkbpbaa.Xw Go.Proofs.YtpphnjmppkbpbaaW.PrintWords Go.Proofs.YtpphnjmppkbpbaaW.PrintLast Go.Proofs.YtpphnjmppkbpbaaW.PrintMore
attribute [local go_sem] max2_int min2_int max_two min_two max_three min_three max_four min_four
set_option linter.unusedVariables false
set_option linter.unusedSimpArgs false
def r4PC.f (k : Nat) (a0_0 : Bool) (a0_1 : Int) (a0_2 : Int) (a0_3 : Int) : Option (ByteArray) := (r4RC.f k a0_0 a0_1 a0_2 a0_3).bind fun t181 => (if t181 = true then (if a0_0 = true then ((r1Prt.f k a0_1).bind fun t182 => (if 6 + t182.size ≤ 9223372036854775807 then (if 6 + t182.size + 1 ≤ 9223372036854775807 then ((r1Prt.f k (wrap64 (a0_2 - 1))).bind fun t183 => (if 6 + t182.size + 1 + t183.size ≤ 9223372036854775807 then (if a0_3 < 0 then (if 6 + t182.size + 1 + t183.size + 2 ≤ 9223372036854775807 then (some (((((⟨#[98, 121, 116, 101, 115, 32]⟩ : ByteArray) ++ t182) ++ (⟨#[45]⟩ : ByteArray)) ++ t183) ++ (⟨#[47, 42]⟩ : ByteArray))) else (none)) else (if 6 + t182.size + 1 + t183.size + 1 ≤ 9223372036854775807 then ((r1Prt.f k a0_3).bind fun t184 => (if 6 + t182.size + 1 + t183.size + 1 + t184.size ≤ 9223372036854775807 then (some ((((((⟨#[98, 121, 116, 101, 115, 32]⟩ : ByteArray) ++ t182) ++ (⟨#[45]⟩ : ByteArray)) ++ t183) ++ (⟨#[47]⟩ : ByteArray)) ++ t184)) else (none))) else (none))) else (none))) else (none)) else (none))) else (if a0_3 < 0 then (if 7 + 2 ≤ 9223372036854775807 then (some ((⟨#[98, 121, 116, 101, 115, 32, 42]⟩ : ByteArray) ++ (⟨#[47, 42]⟩ : ByteArray))) else (none)) else (if 7 + 1 ≤ 9223372036854775807 then ((r1Prt.f k a0_3).bind fun t185 => (if 8 + t185.size ≤ 9223372036854775807 then (some (((⟨#[98, 121, 116, 101, 115, 32, 42]⟩ : ByteArray) ++ (⟨#[47]⟩ : ByteArray)) ++ t185)) else (none))) else (none)))) else (some (⟨#[]⟩ : ByteArray)))
theorem r4PC.mono : ∀ a0 a1 a2 a3 k, LeO (r4PC.f k a0 a1 a2 a3) (r4PC.f (k + 1) a0 a1 a2 a3) := by
  intro a0 a1 a2 a3 k
  unfold r4PC.f
  repeat' first
      | (with_reducible exact r1Prt.mono _ _)
      | (with_reducible exact r4RC.mono _ _ _ _ _)
      | (with_reducible exact LeO.refl _)
      | (with_reducible exact LeO.none _)
      | (with_reducible refine LeO.ite ?_ ?_)
      | (with_reducible refine LeO.bind ?_ (fun _ => ?_))
      | exact r1Prt.mono _ _
      | exact r4RC.mono _ _ _ _ _
      | exact LeO.none _
      | refine LeO.ite ?_ ?_
      | refine LeO.bind ?_ (fun _ => ?_)
def r4PC.T5 : Bool × List (List Nat × List Nat) := (true, [([], []), ([0], [0]), ([1], [1]), ([2], [2]), ([3], [3]), ([4], [4]), ([], []), ([6], [6]), ([7], [7]), ([8], [8]), ([9, 3], [9]), ([5, 10], [5, 10]), ([11, 10, 0, 1, 2, 3, 4, 5, 6, 7, 8, 9, 10, 11], [11])])
def r4PC.B5 : List Nat := [0, 1, 3, 7, 15, 31, 0, 64, 192, 448, 975, 2047, 4095]
theorem r4PC.tab5 : rtab .any (opsOf Try.f22 5) = r4PC.T5 := by kernel_rfl
theorem r4PC.bits5 : waitsOk r4PC.T5.2 r4PC.B5 = true := by kernel_rfl
set_option maxHeartbeats 8000000 in
set_option maxRecDepth 100000 in
theorem r4PC.calls (k : Nat) (a0_0 : Bool) (a0_1 : Int) (a0_2 : Int) (a0_3 : Int) (r : ByteArray) (w : World) (h : r4PC.f k a0_0 a0_1 a0_2 a0_3 = some r) :
    Calls Try.prog 22 #[.agg #[.bool a0_0, .int .i64 a0_1, .int .i64 a0_2, .int .i64 a0_3]] w fun e w' => e = .returned (.string r) ∧ Below w.heap.size w w' := by
  have hu59 := Try.underlying59
  have HB := AsZ.mk (Below.refl w.heap.size w)
  have H : ((r4RC.f k a0_0 a0_1 a0_2 a0_3).bind fun t181 => (if t181 = true then (if a0_0 = true then ((r1Prt.f k a0_1).bind fun t182 => (if 6 + t182.size ≤ 9223372036854775807 then (if 6 + t182.size + 1 ≤ 9223372036854775807 then ((r1Prt.f k (wrap64 (a0_2 - 1))).bind fun t183 => (if 6 + t182.size + 1 + t183.size ≤ 9223372036854775807 then (if a0_3 < 0 then (if 6 + t182.size + 1 + t183.size + 2 ≤ 9223372036854775807 then (some (((((⟨#[98, 121, 116, 101, 115, 32]⟩ : ByteArray) ++ t182) ++ (⟨#[45]⟩ : ByteArray)) ++ t183) ++ (⟨#[47, 42]⟩ : ByteArray))) else (none)) else (if 6 + t182.size + 1 + t183.size + 1 ≤ 9223372036854775807 then ((r1Prt.f k a0_3).bind fun t184 => (if 6 + t182.size + 1 + t183.size + 1 + t184.size ≤ 9223372036854775807 then (some ((((((⟨#[98, 121, 116, 101, 115, 32]⟩ : ByteArray) ++ t182) ++ (⟨#[45]⟩ : ByteArray)) ++ t183) ++ (⟨#[47]⟩ : ByteArray)) ++ t184)) else (none))) else (none))) else (none))) else (none)) else (none))) else (if a0_3 < 0 then (if 7 + 2 ≤ 9223372036854775807 then (some ((⟨#[98, 121, 116, 101, 115, 32, 42]⟩ : ByteArray) ++ (⟨#[47, 42]⟩ : ByteArray))) else (none)) else (if 7 + 1 ≤ 9223372036854775807 then ((r1Prt.f k a0_3).bind fun t185 => (if 8 + t185.size ≤ 9223372036854775807 then (some (((⟨#[98, 121, 116, 101, 115, 32, 42]⟩ : ByteArray) ++ (⟨#[47]⟩ : ByteArray)) ++ t185)) else (none))) else (none)))) else (some (⟨#[]⟩ : ByteArray)))) = some r := h
  clear h
  replace H := Option.bind_eq_some_iff.mp H
  obtain ⟨t181, A20, H⟩ := H
  replace H : (if t181 = true then (if a0_0 = true then ((r1Prt.f k a0_1).bind fun t182 => (if 6 + t182.size ≤ 9223372036854775807 then (if 6 + t182.size + 1 ≤ 9223372036854775807 then ((r1Prt.f k (wrap64 (a0_2 - 1))).bind fun t183 => (if 6 + t182.size + 1 + t183.size ≤ 9223372036854775807 then (if a0_3 < 0 then (if 6 + t182.size + 1 + t183.size + 2 ≤ 9223372036854775807 then (some (((((⟨#[98, 121, 116, 101, 115, 32]⟩ : ByteArray) ++ t182) ++ (⟨#[45]⟩ : ByteArray)) ++ t183) ++ (⟨#[47, 42]⟩ : ByteArray))) else (none)) else (if 6 + t182.size + 1 + t183.size + 1 ≤ 9223372036854775807 then ((r1Prt.f k a0_3).bind fun t184 => (if 6 + t182.size + 1 + t183.size + 1 + t184.size ≤ 9223372036854775807 then (some ((((((⟨#[98, 121, 116, 101, 115, 32]⟩ : ByteArray) ++ t182) ++ (⟨#[45]⟩ : ByteArray)) ++ t183) ++ (⟨#[47]⟩ : ByteArray)) ++ t184)) else (none))) else (none))) else (none))) else (none)) else (none))) else (if a0_3 < 0 then (if 7 + 2 ≤ 9223372036854775807 then (some ((⟨#[98, 121, 116, 101, 115, 32, 42]⟩ : ByteArray) ++ (⟨#[47, 42]⟩ : ByteArray))) else (none)) else (if 7 + 1 ≤ 9223372036854775807 then ((r1Prt.f k a0_3).bind fun t185 => (if 8 + t185.size ≤ 9223372036854775807 then (some (((⟨#[98, 121, 116, 101, 115, 32, 42]⟩ : ByteArray) ++ (⟨#[47]⟩ : ByteArray)) ++ t185)) else (none))) else (none)))) else (some (⟨#[]⟩ : ByteArray))) = some r := H
  have A2 := AsZ.mk A20
  clear A20
  by_cases c3 : t181 = true
  · subst c3
    have H1 : (if a0_0 = true then ((r1Prt.f k a0_1).bind fun t182 => (if 6 + t182.size ≤ 9223372036854775807 then (if 6 + t182.size + 1 ≤ 9223372036854775807 then ((r1Prt.f k (wrap64 (a0_2 - 1))).bind fun t183 => (if 6 + t182.size + 1 + t183.size ≤ 9223372036854775807 then (if a0_3 < 0 then (if 6 + t182.size + 1 + t183.size + 2 ≤ 9223372036854775807 then (some (((((⟨#[98, 121, 116, 101, 115, 32]⟩ : ByteArray) ++ t182) ++ (⟨#[45]⟩ : ByteArray)) ++ t183) ++ (⟨#[47, 42]⟩ : ByteArray))) else (none)) else (if 6 + t182.size + 1 + t183.size + 1 ≤ 9223372036854775807 then ((r1Prt.f k a0_3).bind fun t184 => (if 6 + t182.size + 1 + t183.size + 1 + t184.size ≤ 9223372036854775807 then (some ((((((⟨#[98, 121, 116, 101, 115, 32]⟩ : ByteArray) ++ t182) ++ (⟨#[45]⟩ : ByteArray)) ++ t183) ++ (⟨#[47]⟩ : ByteArray)) ++ t184)) else (none))) else (none))) else (none))) else (none)) else (none))) else (if a0_3 < 0 then (if 7 + 2 ≤ 9223372036854775807 then (some ((⟨#[98, 121, 116, 101, 115, 32, 42]⟩ : ByteArray) ++ (⟨#[47, 42]⟩ : ByteArray))) else (none)) else (if 7 + 1 ≤ 9223372036854775807 then ((r1Prt.f k a0_3).bind fun t185 => (if 8 + t185.size ≤ 9223372036854775807 then (some (((⟨#[98, 121, 116, 101, 115, 32, 42]⟩ : ByteArray) ++ (⟨#[47]⟩ : ByteArray)) ++ t185)) else (none))) else (none)))) = some r := by rw [if_pos rfl] at H; exact H
    clear H
    have H := H1
    clear H1
    by_cases c4 : a0_0 = true
    · subst c4
      have H1 : ((r1Prt.f k a0_1).bind fun t182 => (if 6 + t182.size ≤ 9223372036854775807 then (if 6 + t182.size + 1 ≤ 9223372036854775807 then ((r1Prt.f k (wrap64 (a0_2 - 1))).bind fun t183 => (if 6 + t182.size + 1 + t183.size ≤ 9223372036854775807 then (if a0_3 < 0 then (if 6 + t182.size + 1 + t183.size + 2 ≤ 9223372036854775807 then (some (((((⟨#[98, 121, 116, 101, 115, 32]⟩ : ByteArray) ++ t182) ++ (⟨#[45]⟩ : ByteArray)) ++ t183) ++ (⟨#[47, 42]⟩ : ByteArray))) else (none)) else (if 6 + t182.size + 1 + t183.size + 1 ≤ 9223372036854775807 then ((r1Prt.f k a0_3).bind fun t184 => (if 6 + t182.size + 1 + t183.size + 1 + t184.size ≤ 9223372036854775807 then (some ((((((⟨#[98, 121, 116, 101, 115, 32]⟩ : ByteArray) ++ t182) ++ (⟨#[45]⟩ : ByteArray)) ++ t183) ++ (⟨#[47]⟩ : ByteArray)) ++ t184)) else (none))) else (none))) else (none))) else (none)) else (none))) = some r := by rw [if_pos rfl] at H; exact H
      clear H
      have H := H1
      clear H1
      replace H := Option.bind_eq_some_iff.mp H
      obtain ⟨t182, A50, H⟩ := H
      replace H : (if 6 + t182.size ≤ 9223372036854775807 then (if 6 + t182.size + 1 ≤ 9223372036854775807 then ((r1Prt.f k (wrap64 (a0_2 - 1))).bind fun t183 => (if 6 + t182.size + 1 + t183.size ≤ 9223372036854775807 then (if a0_3 < 0 then (if 6 + t182.size + 1 + t183.size + 2 ≤ 9223372036854775807 then (some (((((⟨#[98, 121, 116, 101, 115, 32]⟩ : ByteArray) ++ t182) ++ (⟨#[45]⟩ : ByteArray)) ++ t183) ++ (⟨#[47, 42]⟩ : ByteArray))) else (none)) else (if 6 + t182.size + 1 + t183.size + 1 ≤ 9223372036854775807 then ((r1Prt.f k a0_3).bind fun t184 => (if 6 + t182.size + 1 + t183.size + 1 + t184.size ≤ 9223372036854775807 then (some ((((((⟨#[98, 121, 116, 101, 115, 32]⟩ : ByteArray) ++ t182) ++ (⟨#[45]⟩ : ByteArray)) ++ t183) ++ (⟨#[47]⟩ : ByteArray)) ++ t184)) else (none))) else (none))) else (none))) else (none)) else (none)) = some r := H
      have A5 := AsZ.mk A50
      clear A50
      by_cases c6 : 6 + t182.size ≤ 9223372036854775807
      · rw [if_pos c6] at H
        have c6b0 := eq_true c6
        have c6b1 : decide (6 + t182.size ≤ 9223372036854775807) = true := decide_eq_true c6
        try have c6b2 : (9223372036854775807 < 6 + t182.size) = False := eq_false (Nat.not_lt.2 c6)
        by_cases c7 : 6 + t182.size + 1 ≤ 9223372036854775807
        · rw [if_pos c7] at H
          have c7b0 := eq_true c7
          have c7b1 : decide (6 + t182.size + 1 ≤ 9223372036854775807) = true := decide_eq_true c7
          try have c7b2 : (9223372036854775807 < 6 + t182.size + 1) = False := eq_false (Nat.not_lt.2 c7)
          replace H := Option.bind_eq_some_iff.mp H
          obtain ⟨t183, A80, H⟩ := H
          replace H : (if 6 + t182.size + 1 + t183.size ≤ 9223372036854775807 then (if a0_3 < 0 then (if 6 + t182.size + 1 + t183.size + 2 ≤ 9223372036854775807 then (some (((((⟨#[98, 121, 116, 101, 115, 32]⟩ : ByteArray) ++ t182) ++ (⟨#[45]⟩ : ByteArray)) ++ t183) ++ (⟨#[47, 42]⟩ : ByteArray))) else (none)) else (if 6 + t182.size + 1 + t183.size + 1 ≤ 9223372036854775807 then ((r1Prt.f k a0_3).bind fun t184 => (if 6 + t182.size + 1 + t183.size + 1 + t184.size ≤ 9223372036854775807 then (some ((((((⟨#[98, 121, 116, 101, 115, 32]⟩ : ByteArray) ++ t182) ++ (⟨#[45]⟩ : ByteArray)) ++ t183) ++ (⟨#[47]⟩ : ByteArray)) ++ t184)) else (none))) else (none))) else (none)) = some r := H
          have A8 := AsZ.mk A80
          clear A80
          by_cases c9 : 6 + t182.size + 1 + t183.size ≤ 9223372036854775807
          · rw [if_pos c9] at H
            have c9b0 := eq_true c9
            have c9b1 : decide (6 + t182.size + 1 + t183.size ≤ 9223372036854775807) = true := decide_eq_true c9
            try have c9b2 : (9223372036854775807 < 6 + t182.size + 1 + t183.size) = False := eq_false (Nat.not_lt.2 c9)
            by_cases c10 : a0_3 < 0
            · rw [if_pos c10] at H
              have c10b0 : decide (a0_3 < 0) = true := decide_eq_true c10
              clear c10
              by_cases c11 : 6 + t182.size + 1 + t183.size + 2 ≤ 9223372036854775807
              · rw [if_pos c11] at H
                have c11b0 := eq_true c11
                have c11b1 : decide (6 + t182.size + 1 + t183.size + 2 ≤ 9223372036854775807) = true := decide_eq_true c11
                try have c11b2 : (9223372036854775807 < 6 + t182.size + 1 + t183.size + 2) = False := eq_false (Nat.not_lt.2 c11)
                obtain rfl := Option.some.inj H
                go_enter Try.func22, Try.ntmps22
                try go_wp2_with (first | ((with_reducible refine gDs (N := 1) rfl ?_); refine bEv ?hg (N := 1) ?hd (cs := #[.bool true, .int .i64 a0_1, .int .i64 a0_2, .int .i64 a0_3]) (t := 59) ?hr ?_; (case hd => rfl); (case hg => rfl); (case hr => first | (go_simp; done) | (go_simp; rfl)); intro gb180 hg w12 hbox hb; have n0_ := AsZ.mk (tBl (by repeat (first | (with_reducible first | exact HB.out | apply aBl | apply pBd | apply dBl) | exact HB.out)) hb); have n1_ := AsZ.mk (hbox); have n2_ := AsZ.mk ((by rw [hg]; exact (zBl (by repeat (first | (with_reducible first | exact HB.out | apply aBl | apply pBd | apply dBl) | exact HB.out))) : w.heap.size ≤ gb180)); have n3_ := AsZ.mk ((by rw [hg]; exact (zBl (by repeat (first | (with_reducible first | exact HB.out | apply aBl | apply pBd | apply dBl) | exact HB.out))) : w.heap.size ≤ gb180)); clear HB; have HB := n0_; have BK180 := n1_; have GW180 := n2_; have GE180 := n3_; clear n0_ n1_ n2_ n3_; clear hb hbox hg; obtain ⟨hcz13_0, hcz13_1, hcz13_2, hcz13_3⟩ := celN4 BK180.out; obtain ⟨hfz13_0, hfz13_1, hfz13_2, hfz13_3⟩ := fzN4 BK180.out) | ((with_reducible refine gCa (f := 33) rfl ?_); refine gLl (some 5) rfl rfl Try.func33 (by kernel_rfl) rfl #[.agg #[.bool true, .int .i64 a0_1, .int .i64 a0_2, .int .i64 a0_3]] rfl (by (try simp only [lsD, lsE, lsF]); first | done | rfl | (simp only [lsG, lsH]; rfl)) ?_; (with_reducible refine (r4RC.calls k true a0_1 a0_2 a0_3 true _ A2.out).mono ?_); rintro e w14 ⟨rfl, hb⟩; refine ⟨_, rfl, ?_⟩; have n0_ := AsZ.mk (bBl (g := gb180) (o := .cells #[.bool true, .int .i64 a0_1, .int .i64 a0_2, .int .i64 a0_3] 59 (0, 0)) (by (with_reducible repeat first | apply bDn | apply bDr | apply bAl); exact BK180.out) hb); have n1_ := AsZ.mk (tBl (by repeat (first | (with_reducible first | exact HB.out | apply aBl | apply pBd | apply dBl | refine sBl ?_ GE180.out) | exact HB.out)) hb); clear BK180; clear HB; have BK180 := n0_; have HB := n1_; clear n0_ n1_; (try clear hb); (try clear hb2); (try clear hk); (try clear hi); obtain ⟨hcz15_0, hcz15_1, hcz15_2, hcz15_3⟩ := celN4 BK180.out; obtain ⟨hfz15_0, hfz15_1, hfz15_2, hfz15_3⟩ := fzN4 BK180.out))
                have n0_ := AsZ.mk (bDr BK180.out)
                have n1_ := AsZ.mk (dBl HB.out)
                clear BK180
                clear HB
                have BK180 := n0_
                have HB := n1_
                clear n0_ n1_
                refine start_ (n := 13) (S := fun w' => w'.cell? ⟨gb180, 0, none⟩ = some (.bool true) ∧ w'.cell? ⟨gb180, 1, none⟩ = some (.int .i64 a0_1) ∧ w'.cell? ⟨gb180, 2, none⟩ = some (.int .i64 a0_2) ∧ w'.cell? ⟨gb180, 3, none⟩ = some (.int .i64 a0_3)) (ds := []) #[false, false, false, false, false, false, false, false, false, false, false, false, false] (by kernel_rfl) rfl rfl ⟨(bCe BK180.out 0).trans rfl, (bCe BK180.out 1).trans rfl, (bCe BK180.out 2).trans rfl, (bCe BK180.out 3).trans rfl⟩ (fun hHeld => ?_); refine with_tabW r4PC.tab5 r4PC.bits5 (fun HT_ HW_ => ?_)
                generalize w14.drew = w16 at BK180 HB hHeld ⊢
                refine pure_ (i := 0) (N := some 9) (v := ?_) (a' := ?_) #[true, false, false, false, false, false, false, false, false, false, false, false, false] rfl rfl (any_of HT_.out (by kernel_rfl)) (fun _ _ _ h => h) (Or.inl ⟨by rfl, ?_⟩) ?_ ?_
                rotate_left
                · intro w'
                  go_simp
                  with_reducible rfl
                rotate_left
                · simp only [Act.put, lsA, lsB, lsC, i64_w, i32_w]
                  rfl
                refine pure_ (i := 1) (N := some 10) (v := ?_) (a' := ?_) #[true, true, false, false, false, false, false, false, false, false, false, false, false] rfl rfl (any_of HT_.out (by kernel_rfl)) (fun _ _ _ h => h) (Or.inl ⟨by rfl, ?_⟩) ?_ ?_
                rotate_left
                · intro w'
                  go_simp
                  with_reducible rfl
                rotate_left
                · simp only [Act.put, lsA, lsB, lsC, i64_w, i32_w]
                  rfl
                refine pure_ (i := 6) (N := some 15) (v := ?_) (a' := ?_) #[true, true, false, false, false, false, true, false, false, false, false, false, false] rfl rfl (any_of HT_.out (by kernel_rfl)) (fun _ _ _ h => h) (Or.inl ⟨by rfl, ?_⟩) ?_ ?_
                rotate_left
                · intro w'
                  go_simp
                  with_reducible rfl
                rotate_left
                · simp only [Act.put, lsA, lsB, lsC, i64_w, i32_w]
                  rfl
                refine pure_ (i := 7) (N := some 16) (v := ?_) (a' := ?_) #[true, true, false, false, false, false, true, true, false, false, false, false, false] rfl rfl (any_of HT_.out (by kernel_rfl)) (fun _ _ _ h => h) (Or.inl ⟨by rfl, ?_⟩) ?_ ?_
                rotate_left
                · intro w'
                  go_simp
                  with_reducible rfl
                rotate_left
                · simp only [Act.put, lsA, lsB, lsC, i64_w, i32_w]
                  rfl
                refine take_ (i := 2) (N := some 11) (v := ?_) (a' := ?_) #[true, true, true, false, false, false, true, true, false, false, false, false, false] rfl rfl (take_ofW HT_.out HW_.out (by kernel_rfl)) (fun _ _ _ h => h) (Or.inl ⟨by rfl, ?_⟩) hHeld ?_ ?_
                rotate_left
                · rintro w' ⟨s0, s1, s2, s3⟩
                  go_simp
                  with_reducible rfl
                rotate_left
                · simp only [Act.put, lsA, lsB, lsC, i64_w, i32_w]
                  rfl
                refine take_ (i := 8) (N := some 17) (v := ?_) (a' := ?_) #[true, true, true, false, false, false, true, true, true, false, false, false, false] rfl rfl (take_ofW HT_.out HW_.out (by kernel_rfl)) (fun _ _ _ h => h) (Or.inl ⟨by rfl, ?_⟩) hHeld ?_ ?_
                rotate_left
                · rintro w' ⟨s0, s1, s2, s3⟩
                  go_simp
                  with_reducible rfl
                rotate_left
                · simp only [Act.put, lsA, lsB, lsC, i64_w, i32_w]
                  rfl
                refine pure_ (i := 9) (N := some 18) (v := ?_) (a' := ?_) #[true, true, true, false, false, false, true, true, true, true, false, false, false] rfl rfl (any_of HT_.out (by kernel_rfl)) (fun _ _ _ h => h) (Or.inl ⟨by rfl, ?_⟩) ?_ ?_
                rotate_left
                · intro w'
                  go_simp
                  with_reducible rfl
                rotate_left
                · simp only [Act.put, lsA, lsB, lsC, i64_w, i32_w]
                  rfl
                refine one_ (i := 3) (N := some 12) #[true, true, true, true, false, false, true, true, true, true, false, false, false] rfl rfl (one_of HT_.out (by kernel_rfl)) (by decide) (fun K hK => ?_)
                refine goes_ Try.func21 (by kernel_rfl) rfl #[.int .i64 a0_1] (by rfl) rfl rfl (by (try simp only [lsD, lsE, lsF]); first | done | rfl | (simp only [lsG, lsH]; rfl)) ?_
                with_reducible refine (r1Prt.calls k a0_1 t182 _ A5.out).mono ?_
                rintro e w17 ⟨rfl, hb⟩
                refine ⟨_, rfl, ?_⟩
                have n0_ := AsZ.mk (bBl (g := gb180) (o := .cells #[.bool true, .int .i64 a0_1, .int .i64 a0_2, .int .i64 a0_3] 59 (0, 0)) (by (with_reducible repeat first | apply bDn | apply bDr | apply bAl); exact BK180.out) hb)
                have n1_ := AsZ.mk (tBl (by repeat (first | (with_reducible first | exact HB.out | apply aBl | apply pBd | apply dBl | refine sBl ?_ GE180.out) | exact HB.out)) hb)
                clear BK180
                clear HB
                have BK180 := n0_
                have HB := n1_
                clear n0_ n1_
                (try clear hb)
                (try clear hb2)
                (try clear hk)
                (try clear hi)
                refine hK.out _ _ ⟨(bCe BK180.out 0).trans rfl, (bCe BK180.out 1).trans rfl, (bCe BK180.out 2).trans rfl, (bCe BK180.out 3).trans rfl⟩ (fun hHeld => ?_)
                clear hK K
                refine norm_ (a' := ?_) ?_ ?_
                rotate_left
                · show Act.put _ (some 12) _ = _
                  simp only [Act.put, lsA, lsB, lsC, i64_w, i32_w]
                  rfl
                refine pure_ (i := 4) (N := some 13) (v := ?_) (a' := ?_) #[true, true, true, true, true, false, true, true, true, true, false, false, false] rfl rfl (any_of HT_.out (by kernel_rfl)) (fun _ _ _ h => h) (Or.inl ⟨by rfl, ?_⟩) ?_ ?_
                rotate_left
                · intro w'
                  go_simp
                  with_reducible rfl
                rotate_left
                · simp only [Act.put, lsA, lsB, lsC, i64_w, i32_w]
                  rfl
                refine pure_ (i := 5) (N := some 14) (v := ?_) (a' := ?_) #[true, true, true, true, true, true, true, true, true, true, false, false, false] rfl rfl (any_of HT_.out (by kernel_rfl)) (fun _ _ _ h => h) (Or.inl ⟨by rfl, ?_⟩) ?_ ?_
                rotate_left
                · intro w'
                  go_simp
                  with_reducible rfl
                rotate_left
                · simp only [Act.put, lsA, lsB, lsC, i64_w, i32_w]
                  rfl
                refine one_ (i := 10) (N := some 19) #[true, true, true, true, true, true, true, true, true, true, true, false, false] rfl rfl (one_of HT_.out (by kernel_rfl)) (by decide) (fun K hK => ?_)
                refine goes_ Try.func21 (by kernel_rfl) rfl #[.int .i64 (wrap64 (a0_2 - 1))] (by rfl) rfl rfl (by (try simp only [lsD, lsE, lsF]); first | done | rfl | (simp only [lsG, lsH]; rfl)) ?_
                with_reducible refine (r1Prt.calls k (wrap64 (a0_2 - 1)) t183 _ A8.out).mono ?_
                rintro e w18 ⟨rfl, hb⟩
                refine ⟨_, rfl, ?_⟩
                have n0_ := AsZ.mk (bBl (g := gb180) (o := .cells #[.bool true, .int .i64 a0_1, .int .i64 a0_2, .int .i64 a0_3] 59 (0, 0)) (by (with_reducible repeat first | apply bDn | apply bDr | apply bAl); exact BK180.out) hb)
                have n1_ := AsZ.mk (tBl (by repeat (first | (with_reducible first | exact HB.out | apply aBl | apply pBd | apply dBl | refine sBl ?_ GE180.out) | exact HB.out)) hb)
                clear BK180
                clear HB
                have BK180 := n0_
                have HB := n1_
                clear n0_ n1_
                (try clear hb)
                (try clear hb2)
                (try clear hk)
                (try clear hi)
                refine hK.out _ _ ⟨(bCe BK180.out 0).trans rfl, (bCe BK180.out 1).trans rfl, (bCe BK180.out 2).trans rfl, (bCe BK180.out 3).trans rfl⟩ (fun hHeld => ?_)
                clear hK K
                refine norm_ (a' := ?_) ?_ ?_
                rotate_left
                · show Act.put _ (some 19) _ = _
                  simp only [Act.put, lsA, lsB, lsC, i64_w, i32_w]
                  rfl
                refine pure_ (i := 11) (N := some 20) (v := ?_) (a' := ?_) #[true, true, true, true, true, true, true, true, true, true, true, true, false] rfl rfl (any_of HT_.out (by kernel_rfl)) (fun _ _ _ h => h) (Or.inl ⟨by rfl, ?_⟩) ?_ ?_
                rotate_left
                · intro w'
                  go_simp
                  with_reducible rfl
                rotate_left
                · simp only [Act.put, lsA, lsB, lsC, i64_w, i32_w]
                  rfl
                refine pure_ (i := 12) (N := some 3) (v := ?_) (a' := ?_) #[true, true, true, true, true, true, true, true, true, true, true, true, true] rfl rfl (any_of HT_.out (by kernel_rfl)) (fun _ _ _ h => h) (Or.inl ⟨by rfl, ?_⟩) ?_ ?_
                rotate_left
                · intro w'
                  go_simp
                  with_reducible rfl
                rotate_left
                · simp only [Act.put, lsA, lsB, lsC, i64_w, i32_w]
                  rfl
                refine done_ (done_of HT_.out (by kernel_rfl)) ?_
                obtain ⟨hcz19_0, hcz19_1, hcz19_2, hcz19_3⟩ := celN4 BK180.out
                obtain ⟨hfz19_0, hfz19_1, hfz19_2, hfz19_3⟩ := fzN4 BK180.out
                try go_wp2
                go_ret
                exact ⟨by first | rfl | exact nEm _ | exact eEm _ | (simp [eWn, eWs] <;> rfl) | (simp [*, eWn, eWs] <;> rfl), by repeat (first | (with_reducible first | exact HB.out | apply aBl | apply pBd | apply dBl | refine sBl ?_ GE180.out) | exact HB.out)⟩
              · rw [if_neg c11] at H
                exact absurd H (by simp)
            · rw [if_neg c10] at H
              have c10b0 : decide (a0_3 < 0) = false := decide_eq_false c10
              clear c10
              by_cases c20 : 6 + t182.size + 1 + t183.size + 1 ≤ 9223372036854775807
              · rw [if_pos c20] at H
                have c20b0 := eq_true c20
                have c20b1 : decide (6 + t182.size + 1 + t183.size + 1 ≤ 9223372036854775807) = true := decide_eq_true c20
                try have c20b2 : (9223372036854775807 < 6 + t182.size + 1 + t183.size + 1) = False := eq_false (Nat.not_lt.2 c20)
                replace H := Option.bind_eq_some_iff.mp H
                obtain ⟨t184, A210, H⟩ := H
                replace H : (if 6 + t182.size + 1 + t183.size + 1 + t184.size ≤ 9223372036854775807 then (some ((((((⟨#[98, 121, 116, 101, 115, 32]⟩ : ByteArray) ++ t182) ++ (⟨#[45]⟩ : ByteArray)) ++ t183) ++ (⟨#[47]⟩ : ByteArray)) ++ t184)) else (none)) = some r := H
                have A21 := AsZ.mk A210
                clear A210
                by_cases c22 : 6 + t182.size + 1 + t183.size + 1 + t184.size ≤ 9223372036854775807
                · rw [if_pos c22] at H
                  have c22b0 := eq_true c22
                  have c22b1 : decide (6 + t182.size + 1 + t183.size + 1 + t184.size ≤ 9223372036854775807) = true := decide_eq_true c22
                  try have c22b2 : (9223372036854775807 < 6 + t182.size + 1 + t183.size + 1 + t184.size) = False := eq_false (Nat.not_lt.2 c22)
                  obtain rfl := Option.some.inj H
                  go_enter Try.func22, Try.ntmps22
                  try go_wp2_with (first | ((with_reducible refine gDs (N := 1) rfl ?_); refine bEv ?hg (N := 1) ?hd (cs := #[.bool true, .int .i64 a0_1, .int .i64 a0_2, .int .i64 a0_3]) (t := 59) ?hr ?_; (case hd => rfl); (case hg => rfl); (case hr => first | (go_simp; done) | (go_simp; rfl)); intro gb180 hg w23 hbox hb; have n0_ := AsZ.mk (tBl (by repeat (first | (with_reducible first | exact HB.out | apply aBl | apply pBd | apply dBl) | exact HB.out)) hb); have n1_ := AsZ.mk (hbox); have n2_ := AsZ.mk ((by rw [hg]; exact (zBl (by repeat (first | (with_reducible first | exact HB.out | apply aBl | apply pBd | apply dBl) | exact HB.out))) : w.heap.size ≤ gb180)); have n3_ := AsZ.mk ((by rw [hg]; exact (zBl (by repeat (first | (with_reducible first | exact HB.out | apply aBl | apply pBd | apply dBl) | exact HB.out))) : w.heap.size ≤ gb180)); clear HB; have HB := n0_; have BK180 := n1_; have GW180 := n2_; have GE180 := n3_; clear n0_ n1_ n2_ n3_; clear hb hbox hg; obtain ⟨hcz24_0, hcz24_1, hcz24_2, hcz24_3⟩ := celN4 BK180.out; obtain ⟨hfz24_0, hfz24_1, hfz24_2, hfz24_3⟩ := fzN4 BK180.out) | ((with_reducible refine gCa (f := 33) rfl ?_); refine gLl (some 5) rfl rfl Try.func33 (by kernel_rfl) rfl #[.agg #[.bool true, .int .i64 a0_1, .int .i64 a0_2, .int .i64 a0_3]] rfl (by (try simp only [lsD, lsE, lsF]); first | done | rfl | (simp only [lsG, lsH]; rfl)) ?_; (with_reducible refine (r4RC.calls k true a0_1 a0_2 a0_3 true _ A2.out).mono ?_); rintro e w25 ⟨rfl, hb⟩; refine ⟨_, rfl, ?_⟩; have n0_ := AsZ.mk (bBl (g := gb180) (o := .cells #[.bool true, .int .i64 a0_1, .int .i64 a0_2, .int .i64 a0_3] 59 (0, 0)) (by (with_reducible repeat first | apply bDn | apply bDr | apply bAl); exact BK180.out) hb); have n1_ := AsZ.mk (tBl (by repeat (first | (with_reducible first | exact HB.out | apply aBl | apply pBd | apply dBl | refine sBl ?_ GE180.out) | exact HB.out)) hb); clear BK180; clear HB; have BK180 := n0_; have HB := n1_; clear n0_ n1_; (try clear hb); (try clear hb2); (try clear hk); (try clear hi); obtain ⟨hcz26_0, hcz26_1, hcz26_2, hcz26_3⟩ := celN4 BK180.out; obtain ⟨hfz26_0, hfz26_1, hfz26_2, hfz26_3⟩ := fzN4 BK180.out))
                  have n0_ := AsZ.mk (bDr BK180.out)
                  have n1_ := AsZ.mk (dBl HB.out)
                  clear BK180
                  clear HB
                  have BK180 := n0_
                  have HB := n1_
                  clear n0_ n1_
                  refine start_ (n := 13) (S := fun w' => w'.cell? ⟨gb180, 0, none⟩ = some (.bool true) ∧ w'.cell? ⟨gb180, 1, none⟩ = some (.int .i64 a0_1) ∧ w'.cell? ⟨gb180, 2, none⟩ = some (.int .i64 a0_2) ∧ w'.cell? ⟨gb180, 3, none⟩ = some (.int .i64 a0_3)) (ds := []) #[false, false, false, false, false, false, false, false, false, false, false, false, false] (by kernel_rfl) rfl rfl ⟨(bCe BK180.out 0).trans rfl, (bCe BK180.out 1).trans rfl, (bCe BK180.out 2).trans rfl, (bCe BK180.out 3).trans rfl⟩ (fun hHeld => ?_); refine with_tabW r4PC.tab5 r4PC.bits5 (fun HT_ HW_ => ?_)
                  generalize w25.drew = w27 at BK180 HB hHeld ⊢
                  refine pure_ (i := 0) (N := some 9) (v := ?_) (a' := ?_) #[true, false, false, false, false, false, false, false, false, false, false, false, false] rfl rfl (any_of HT_.out (by kernel_rfl)) (fun _ _ _ h => h) (Or.inl ⟨by rfl, ?_⟩) ?_ ?_
                  rotate_left
                  · intro w'
                    go_simp
                    with_reducible rfl
                  rotate_left
                  · simp only [Act.put, lsA, lsB, lsC, i64_w, i32_w]
                    rfl
                  refine pure_ (i := 1) (N := some 10) (v := ?_) (a' := ?_) #[true, true, false, false, false, false, false, false, false, false, false, false, false] rfl rfl (any_of HT_.out (by kernel_rfl)) (fun _ _ _ h => h) (Or.inl ⟨by rfl, ?_⟩) ?_ ?_
                  rotate_left
                  · intro w'
                    go_simp
                    with_reducible rfl
                  rotate_left
                  · simp only [Act.put, lsA, lsB, lsC, i64_w, i32_w]
                    rfl
                  refine pure_ (i := 6) (N := some 15) (v := ?_) (a' := ?_) #[true, true, false, false, false, false, true, false, false, false, false, false, false] rfl rfl (any_of HT_.out (by kernel_rfl)) (fun _ _ _ h => h) (Or.inl ⟨by rfl, ?_⟩) ?_ ?_
                  rotate_left
                  · intro w'
                    go_simp
                    with_reducible rfl
                  rotate_left
                  · simp only [Act.put, lsA, lsB, lsC, i64_w, i32_w]
                    rfl
                  refine pure_ (i := 7) (N := some 16) (v := ?_) (a' := ?_) #[true, true, false, false, false, false, true, true, false, false, false, false, false] rfl rfl (any_of HT_.out (by kernel_rfl)) (fun _ _ _ h => h) (Or.inl ⟨by rfl, ?_⟩) ?_ ?_
                  rotate_left
                  · intro w'
                    go_simp
                    with_reducible rfl
                  rotate_left
                  · simp only [Act.put, lsA, lsB, lsC, i64_w, i32_w]
                    rfl
                  refine take_ (i := 2) (N := some 11) (v := ?_) (a' := ?_) #[true, true, true, false, false, false, true, true, false, false, false, false, false] rfl rfl (take_ofW HT_.out HW_.out (by kernel_rfl)) (fun _ _ _ h => h) (Or.inl ⟨by rfl, ?_⟩) hHeld ?_ ?_
                  rotate_left
                  · rintro w' ⟨s0, s1, s2, s3⟩
                    go_simp
                    with_reducible rfl
                  rotate_left
                  · simp only [Act.put, lsA, lsB, lsC, i64_w, i32_w]
                    rfl
                  refine take_ (i := 8) (N := some 17) (v := ?_) (a' := ?_) #[true, true, true, false, false, false, true, true, true, false, false, false, false] rfl rfl (take_ofW HT_.out HW_.out (by kernel_rfl)) (fun _ _ _ h => h) (Or.inl ⟨by rfl, ?_⟩) hHeld ?_ ?_
                  rotate_left
                  · rintro w' ⟨s0, s1, s2, s3⟩
                    go_simp
                    with_reducible rfl
                  rotate_left
                  · simp only [Act.put, lsA, lsB, lsC, i64_w, i32_w]
                    rfl
                  refine pure_ (i := 9) (N := some 18) (v := ?_) (a' := ?_) #[true, true, true, false, false, false, true, true, true, true, false, false, false] rfl rfl (any_of HT_.out (by kernel_rfl)) (fun _ _ _ h => h) (Or.inl ⟨by rfl, ?_⟩) ?_ ?_
                  rotate_left
                  · intro w'
                    go_simp
                    with_reducible rfl
                  rotate_left
                  · simp only [Act.put, lsA, lsB, lsC, i64_w, i32_w]
                    rfl
                  refine one_ (i := 3) (N := some 12) #[true, true, true, true, false, false, true, true, true, true, false, false, false] rfl rfl (one_of HT_.out (by kernel_rfl)) (by decide) (fun K hK => ?_)
                  refine goes_ Try.func21 (by kernel_rfl) rfl #[.int .i64 a0_1] (by rfl) rfl rfl (by (try simp only [lsD, lsE, lsF]); first | done | rfl | (simp only [lsG, lsH]; rfl)) ?_
                  with_reducible refine (r1Prt.calls k a0_1 t182 _ A5.out).mono ?_
                  rintro e w28 ⟨rfl, hb⟩
                  refine ⟨_, rfl, ?_⟩
                  have n0_ := AsZ.mk (bBl (g := gb180) (o := .cells #[.bool true, .int .i64 a0_1, .int .i64 a0_2, .int .i64 a0_3] 59 (0, 0)) (by (with_reducible repeat first | apply bDn | apply bDr | apply bAl); exact BK180.out) hb)
                  have n1_ := AsZ.mk (tBl (by repeat (first | (with_reducible first | exact HB.out | apply aBl | apply pBd | apply dBl | refine sBl ?_ GE180.out) | exact HB.out)) hb)
                  clear BK180
                  clear HB
                  have BK180 := n0_
                  have HB := n1_
                  clear n0_ n1_
                  (try clear hb)
                  (try clear hb2)
                  (try clear hk)
                  (try clear hi)
                  refine hK.out _ _ ⟨(bCe BK180.out 0).trans rfl, (bCe BK180.out 1).trans rfl, (bCe BK180.out 2).trans rfl, (bCe BK180.out 3).trans rfl⟩ (fun hHeld => ?_)
                  clear hK K
                  refine norm_ (a' := ?_) ?_ ?_
                  rotate_left
                  · show Act.put _ (some 12) _ = _
                    simp only [Act.put, lsA, lsB, lsC, i64_w, i32_w]
                    rfl
                  refine pure_ (i := 4) (N := some 13) (v := ?_) (a' := ?_) #[true, true, true, true, true, false, true, true, true, true, false, false, false] rfl rfl (any_of HT_.out (by kernel_rfl)) (fun _ _ _ h => h) (Or.inl ⟨by rfl, ?_⟩) ?_ ?_
                  rotate_left
                  · intro w'
                    go_simp
                    with_reducible rfl
                  rotate_left
                  · simp only [Act.put, lsA, lsB, lsC, i64_w, i32_w]
                    rfl
                  refine pure_ (i := 5) (N := some 14) (v := ?_) (a' := ?_) #[true, true, true, true, true, true, true, true, true, true, false, false, false] rfl rfl (any_of HT_.out (by kernel_rfl)) (fun _ _ _ h => h) (Or.inl ⟨by rfl, ?_⟩) ?_ ?_
                  rotate_left
                  · intro w'
                    go_simp
                    with_reducible rfl
                  rotate_left
                  · simp only [Act.put, lsA, lsB, lsC, i64_w, i32_w]
                    rfl
                  refine one_ (i := 10) (N := some 19) #[true, true, true, true, true, true, true, true, true, true, true, false, false] rfl rfl (one_of HT_.out (by kernel_rfl)) (by decide) (fun K hK => ?_)
                  refine goes_ Try.func21 (by kernel_rfl) rfl #[.int .i64 (wrap64 (a0_2 - 1))] (by rfl) rfl rfl (by (try simp only [lsD, lsE, lsF]); first | done | rfl | (simp only [lsG, lsH]; rfl)) ?_
                  with_reducible refine (r1Prt.calls k (wrap64 (a0_2 - 1)) t183 _ A8.out).mono ?_
                  rintro e w29 ⟨rfl, hb⟩
                  refine ⟨_, rfl, ?_⟩
                  have n0_ := AsZ.mk (bBl (g := gb180) (o := .cells #[.bool true, .int .i64 a0_1, .int .i64 a0_2, .int .i64 a0_3] 59 (0, 0)) (by (with_reducible repeat first | apply bDn | apply bDr | apply bAl); exact BK180.out) hb)
                  have n1_ := AsZ.mk (tBl (by repeat (first | (with_reducible first | exact HB.out | apply aBl | apply pBd | apply dBl | refine sBl ?_ GE180.out) | exact HB.out)) hb)
                  clear BK180
                  clear HB
                  have BK180 := n0_
                  have HB := n1_
                  clear n0_ n1_
                  (try clear hb)
                  (try clear hb2)
                  (try clear hk)
                  (try clear hi)
                  refine hK.out _ _ ⟨(bCe BK180.out 0).trans rfl, (bCe BK180.out 1).trans rfl, (bCe BK180.out 2).trans rfl, (bCe BK180.out 3).trans rfl⟩ (fun hHeld => ?_)
                  clear hK K
                  refine norm_ (a' := ?_) ?_ ?_
                  rotate_left
                  · show Act.put _ (some 19) _ = _
                    simp only [Act.put, lsA, lsB, lsC, i64_w, i32_w]
                    rfl
                  refine pure_ (i := 11) (N := some 20) (v := ?_) (a' := ?_) #[true, true, true, true, true, true, true, true, true, true, true, true, false] rfl rfl (any_of HT_.out (by kernel_rfl)) (fun _ _ _ h => h) (Or.inl ⟨by rfl, ?_⟩) ?_ ?_
                  rotate_left
                  · intro w'
                    go_simp
                    with_reducible rfl
                  rotate_left
                  · simp only [Act.put, lsA, lsB, lsC, i64_w, i32_w]
                    rfl
                  refine pure_ (i := 12) (N := some 3) (v := ?_) (a' := ?_) #[true, true, true, true, true, true, true, true, true, true, true, true, true] rfl rfl (any_of HT_.out (by kernel_rfl)) (fun _ _ _ h => h) (Or.inl ⟨by rfl, ?_⟩) ?_ ?_
                  rotate_left
                  · intro w'
                    go_simp
                    with_reducible rfl
                  rotate_left
                  · simp only [Act.put, lsA, lsB, lsC, i64_w, i32_w]
                    rfl
                  refine done_ (done_of HT_.out (by kernel_rfl)) ?_
                  obtain ⟨hcz30_0, hcz30_1, hcz30_2, hcz30_3⟩ := celN4 BK180.out
                  obtain ⟨hfz30_0, hfz30_1, hfz30_2, hfz30_3⟩ := fzN4 BK180.out
                  try go_wp2_with (first | ((with_reducible refine gCa (f := 21) rfl ?_); refine gLl (some 30) rfl rfl Try.func21 (by kernel_rfl) rfl #[.int .i64 a0_3] rfl (by (try simp only [lsD, lsE, lsF]); first | done | rfl | (simp only [lsG, lsH]; rfl)) ?_; (with_reducible refine (r1Prt.calls k a0_3 t184 _ A21.out).mono ?_); rintro e w31 ⟨rfl, hb⟩; refine ⟨_, rfl, ?_⟩; have n0_ := AsZ.mk (bBl (g := gb180) (o := .cells #[.bool true, .int .i64 a0_1, .int .i64 a0_2, .int .i64 a0_3] 59 (0, 0)) (by (with_reducible repeat first | apply bDn | apply bDr | apply bAl); exact BK180.out) hb); have n1_ := AsZ.mk (tBl (by repeat (first | (with_reducible first | exact HB.out | apply aBl | apply pBd | apply dBl | refine sBl ?_ GE180.out) | exact HB.out)) hb); clear BK180; clear HB; have BK180 := n0_; have HB := n1_; clear n0_ n1_; (try clear hb); (try clear hb2); (try clear hk); (try clear hi)))
                  go_ret
                  exact ⟨by first | rfl | exact nEm _ | exact eEm _ | (simp [eWn, eWs] <;> rfl) | (simp [*, eWn, eWs] <;> rfl), by repeat (first | (with_reducible first | exact HB.out | apply aBl | apply pBd | apply dBl | refine sBl ?_ GE180.out) | exact HB.out)⟩
                · rw [if_neg c22] at H
                  exact absurd H (by simp)
              · rw [if_neg c20] at H
                exact absurd H (by simp)
          · rw [if_neg c9] at H
            exact absurd H (by simp)
        · rw [if_neg c7] at H
          exact absurd H (by simp)
      · rw [if_neg c6] at H
        exact absurd H (by simp)
    · replace c4 := Bool.eq_false_iff.mpr c4
      subst c4
      have H1 : (if a0_3 < 0 then (if 7 + 2 ≤ 9223372036854775807 then (some ((⟨#[98, 121, 116, 101, 115, 32, 42]⟩ : ByteArray) ++ (⟨#[47, 42]⟩ : ByteArray))) else (none)) else (if 7 + 1 ≤ 9223372036854775807 then ((r1Prt.f k a0_3).bind fun t185 => (if 8 + t185.size ≤ 9223372036854775807 then (some (((⟨#[98, 121, 116, 101, 115, 32, 42]⟩ : ByteArray) ++ (⟨#[47]⟩ : ByteArray)) ++ t185)) else (none))) else (none))) = some r := by rw [if_neg (show ¬ (false = true) by decide)] at H; exact H
      clear H
      have H := H1
      clear H1
      by_cases c32 : a0_3 < 0
      · rw [if_pos c32] at H
        have c32b0 : decide (a0_3 < 0) = true := decide_eq_true c32
        clear c32
        by_cases c33 : 7 + 2 ≤ 9223372036854775807
        · rw [if_pos c33] at H
          have c33b0 := eq_true c33
          have c33b1 : decide (7 + 2 ≤ 9223372036854775807) = true := decide_eq_true c33
          try have c33b2 : (9223372036854775807 < 7 + 2) = False := eq_false (Nat.not_lt.2 c33)
          obtain rfl := Option.some.inj H
          go_enter Try.func22, Try.ntmps22
          go_wp2_with (first | ((with_reducible refine gDs (N := 1) rfl ?_); refine bEv ?hg (N := 1) ?hd (cs := #[.bool false, .int .i64 a0_1, .int .i64 a0_2, .int .i64 a0_3]) (t := 59) ?hr ?_; (case hd => rfl); (case hg => rfl); (case hr => first | (go_simp; done) | (go_simp; rfl)); intro gb180 hg w34 hbox hb; have n0_ := AsZ.mk (tBl (by repeat (first | (with_reducible first | exact HB.out | apply aBl | apply pBd | apply dBl) | exact HB.out)) hb); have n1_ := AsZ.mk (hbox); have n2_ := AsZ.mk ((by rw [hg]; exact (zBl (by repeat (first | (with_reducible first | exact HB.out | apply aBl | apply pBd | apply dBl) | exact HB.out))) : w.heap.size ≤ gb180)); have n3_ := AsZ.mk ((by rw [hg]; exact (zBl (by repeat (first | (with_reducible first | exact HB.out | apply aBl | apply pBd | apply dBl) | exact HB.out))) : w.heap.size ≤ gb180)); clear HB; have HB := n0_; have BK180 := n1_; have GW180 := n2_; have GE180 := n3_; clear n0_ n1_ n2_ n3_; clear hb hbox hg; obtain ⟨hcz35_0, hcz35_1, hcz35_2, hcz35_3⟩ := celN4 BK180.out; obtain ⟨hfz35_0, hfz35_1, hfz35_2, hfz35_3⟩ := fzN4 BK180.out) | ((with_reducible refine gCa (f := 33) rfl ?_); refine gLl (some 5) rfl rfl Try.func33 (by kernel_rfl) rfl #[.agg #[.bool false, .int .i64 a0_1, .int .i64 a0_2, .int .i64 a0_3]] rfl (by (try simp only [lsD, lsE, lsF]); first | done | rfl | (simp only [lsG, lsH]; rfl)) ?_; (with_reducible refine (r4RC.calls k false a0_1 a0_2 a0_3 true _ A2.out).mono ?_); rintro e w36 ⟨rfl, hb⟩; refine ⟨_, rfl, ?_⟩; have n0_ := AsZ.mk (bBl (g := gb180) (o := .cells #[.bool false, .int .i64 a0_1, .int .i64 a0_2, .int .i64 a0_3] 59 (0, 0)) (by (with_reducible repeat first | apply bDn | apply bDr | apply bAl); exact BK180.out) hb); have n1_ := AsZ.mk (tBl (by repeat (first | (with_reducible first | exact HB.out | apply aBl | apply pBd | apply dBl | refine sBl ?_ GE180.out) | exact HB.out)) hb); clear BK180; clear HB; have BK180 := n0_; have HB := n1_; clear n0_ n1_; (try clear hb); (try clear hb2); (try clear hk); (try clear hi); obtain ⟨hcz37_0, hcz37_1, hcz37_2, hcz37_3⟩ := celN4 BK180.out; obtain ⟨hfz37_0, hfz37_1, hfz37_2, hfz37_3⟩ := fzN4 BK180.out))
          go_ret
          exact ⟨by first | rfl | exact nEm _ | exact eEm _ | (simp [eWn, eWs] <;> rfl) | (simp [*, eWn, eWs] <;> rfl), by repeat (first | (with_reducible first | exact HB.out | apply aBl | apply pBd | apply dBl | refine sBl ?_ GE180.out) | exact HB.out)⟩
        · rw [if_neg c33] at H
          exact absurd H (by simp)
      · rw [if_neg c32] at H
        have c32b0 : decide (a0_3 < 0) = false := decide_eq_false c32
        clear c32
        by_cases c38 : 7 + 1 ≤ 9223372036854775807
        · rw [if_pos c38] at H
          have c38b0 := eq_true c38
          have c38b1 : decide (7 + 1 ≤ 9223372036854775807) = true := decide_eq_true c38
          try have c38b2 : (9223372036854775807 < 7 + 1) = False := eq_false (Nat.not_lt.2 c38)
          replace H := Option.bind_eq_some_iff.mp H
          obtain ⟨t185, A390, H⟩ := H
          replace H : (if 8 + t185.size ≤ 9223372036854775807 then (some (((⟨#[98, 121, 116, 101, 115, 32, 42]⟩ : ByteArray) ++ (⟨#[47]⟩ : ByteArray)) ++ t185)) else (none)) = some r := H
          have A39 := AsZ.mk A390
          clear A390
          by_cases c40 : 8 + t185.size ≤ 9223372036854775807
          · rw [if_pos c40] at H
            have c40b0 := eq_true c40
            have c40b1 : decide (8 + t185.size ≤ 9223372036854775807) = true := decide_eq_true c40
            try have c40b2 : (9223372036854775807 < 8 + t185.size) = False := eq_false (Nat.not_lt.2 c40)
            obtain rfl := Option.some.inj H
            go_enter Try.func22, Try.ntmps22
            go_wp2_with (first | ((with_reducible refine gDs (N := 1) rfl ?_); refine bEv ?hg (N := 1) ?hd (cs := #[.bool false, .int .i64 a0_1, .int .i64 a0_2, .int .i64 a0_3]) (t := 59) ?hr ?_; (case hd => rfl); (case hg => rfl); (case hr => first | (go_simp; done) | (go_simp; rfl)); intro gb180 hg w41 hbox hb; have n0_ := AsZ.mk (tBl (by repeat (first | (with_reducible first | exact HB.out | apply aBl | apply pBd | apply dBl) | exact HB.out)) hb); have n1_ := AsZ.mk (hbox); have n2_ := AsZ.mk ((by rw [hg]; exact (zBl (by repeat (first | (with_reducible first | exact HB.out | apply aBl | apply pBd | apply dBl) | exact HB.out))) : w.heap.size ≤ gb180)); have n3_ := AsZ.mk ((by rw [hg]; exact (zBl (by repeat (first | (with_reducible first | exact HB.out | apply aBl | apply pBd | apply dBl) | exact HB.out))) : w.heap.size ≤ gb180)); clear HB; have HB := n0_; have BK180 := n1_; have GW180 := n2_; have GE180 := n3_; clear n0_ n1_ n2_ n3_; clear hb hbox hg; obtain ⟨hcz42_0, hcz42_1, hcz42_2, hcz42_3⟩ := celN4 BK180.out; obtain ⟨hfz42_0, hfz42_1, hfz42_2, hfz42_3⟩ := fzN4 BK180.out) | ((with_reducible refine gCa (f := 33) rfl ?_); refine gLl (some 5) rfl rfl Try.func33 (by kernel_rfl) rfl #[.agg #[.bool false, .int .i64 a0_1, .int .i64 a0_2, .int .i64 a0_3]] rfl (by (try simp only [lsD, lsE, lsF]); first | done | rfl | (simp only [lsG, lsH]; rfl)) ?_; (with_reducible refine (r4RC.calls k false a0_1 a0_2 a0_3 true _ A2.out).mono ?_); rintro e w43 ⟨rfl, hb⟩; refine ⟨_, rfl, ?_⟩; have n0_ := AsZ.mk (bBl (g := gb180) (o := .cells #[.bool false, .int .i64 a0_1, .int .i64 a0_2, .int .i64 a0_3] 59 (0, 0)) (by (with_reducible repeat first | apply bDn | apply bDr | apply bAl); exact BK180.out) hb); have n1_ := AsZ.mk (tBl (by repeat (first | (with_reducible first | exact HB.out | apply aBl | apply pBd | apply dBl | refine sBl ?_ GE180.out) | exact HB.out)) hb); clear BK180; clear HB; have BK180 := n0_; have HB := n1_; clear n0_ n1_; (try clear hb); (try clear hb2); (try clear hk); (try clear hi); obtain ⟨hcz44_0, hcz44_1, hcz44_2, hcz44_3⟩ := celN4 BK180.out; obtain ⟨hfz44_0, hfz44_1, hfz44_2, hfz44_3⟩ := fzN4 BK180.out) | ((with_reducible refine gCa (f := 21) rfl ?_); refine gLl (some 30) rfl rfl Try.func21 (by kernel_rfl) rfl #[.int .i64 a0_3] rfl (by (try simp only [lsD, lsE, lsF]); first | done | rfl | (simp only [lsG, lsH]; rfl)) ?_; (with_reducible refine (r1Prt.calls k a0_3 t185 _ A39.out).mono ?_); rintro e w45 ⟨rfl, hb⟩; refine ⟨_, rfl, ?_⟩; have n0_ := AsZ.mk (bBl (g := gb180) (o := .cells #[.bool false, .int .i64 a0_1, .int .i64 a0_2, .int .i64 a0_3] 59 (0, 0)) (by (with_reducible repeat first | apply bDn | apply bDr | apply bAl); exact BK180.out) hb); have n1_ := AsZ.mk (tBl (by repeat (first | (with_reducible first | exact HB.out | apply aBl | apply pBd | apply dBl | refine sBl ?_ GE180.out) | exact HB.out)) hb); clear BK180; clear HB; have BK180 := n0_; have HB := n1_; clear n0_ n1_; (try clear hb); (try clear hb2); (try clear hk); (try clear hi)))
            go_ret
            exact ⟨by first | rfl | exact nEm _ | exact eEm _ | (simp [eWn, eWs] <;> rfl) | (simp [*, eWn, eWs] <;> rfl), by repeat (first | (with_reducible first | exact HB.out | apply aBl | apply pBd | apply dBl | refine sBl ?_ GE180.out) | exact HB.out)⟩
          · rw [if_neg c40] at H
            exact absurd H (by simp)
        · rw [if_neg c38] at H
          exact absurd H (by simp)
  · replace c3 := Bool.eq_false_iff.mpr c3
    subst c3
    have H1 : (some (⟨#[]⟩ : ByteArray)) = some r := by rw [if_neg (show ¬ (false = true) by decide)] at H; exact H
    clear H
    have H := H1
    clear H1
    obtain rfl := Option.some.inj H
    go_enter Try.func22, Try.ntmps22
    go_wp2_with (first | ((with_reducible refine gDs (N := 1) rfl ?_); refine bEv ?hg (N := 1) ?hd (cs := #[.bool a0_0, .int .i64 a0_1, .int .i64 a0_2, .int .i64 a0_3]) (t := 59) ?hr ?_; (case hd => rfl); (case hg => rfl); (case hr => first | (go_simp; done) | (go_simp; rfl)); intro gb180 hg w46 hbox hb; have n0_ := AsZ.mk (tBl (by repeat (first | (with_reducible first | exact HB.out | apply aBl | apply pBd | apply dBl) | exact HB.out)) hb); have n1_ := AsZ.mk (hbox); have n2_ := AsZ.mk ((by rw [hg]; exact (zBl (by repeat (first | (with_reducible first | exact HB.out | apply aBl | apply pBd | apply dBl) | exact HB.out))) : w.heap.size ≤ gb180)); have n3_ := AsZ.mk ((by rw [hg]; exact (zBl (by repeat (first | (with_reducible first | exact HB.out | apply aBl | apply pBd | apply dBl) | exact HB.out))) : w.heap.size ≤ gb180)); clear HB; have HB := n0_; have BK180 := n1_; have GW180 := n2_; have GE180 := n3_; clear n0_ n1_ n2_ n3_; clear hb hbox hg; obtain ⟨hcz47_0, hcz47_1, hcz47_2, hcz47_3⟩ := celN4 BK180.out; obtain ⟨hfz47_0, hfz47_1, hfz47_2, hfz47_3⟩ := fzN4 BK180.out) | ((with_reducible refine gCa (f := 33) rfl ?_); refine gLl (some 5) rfl rfl Try.func33 (by kernel_rfl) rfl #[.agg #[.bool a0_0, .int .i64 a0_1, .int .i64 a0_2, .int .i64 a0_3]] rfl (by (try simp only [lsD, lsE, lsF]); first | done | rfl | (simp only [lsG, lsH]; rfl)) ?_; (with_reducible refine (r4RC.calls k a0_0 a0_1 a0_2 a0_3 false _ A2.out).mono ?_); rintro e w48 ⟨rfl, hb⟩; refine ⟨_, rfl, ?_⟩; have n0_ := AsZ.mk (bBl (g := gb180) (o := .cells #[.bool a0_0, .int .i64 a0_1, .int .i64 a0_2, .int .i64 a0_3] 59 (0, 0)) (by (with_reducible repeat first | apply bDn | apply bDr | apply bAl); exact BK180.out) hb); have n1_ := AsZ.mk (tBl (by repeat (first | (with_reducible first | exact HB.out | apply aBl | apply pBd | apply dBl | refine sBl ?_ GE180.out) | exact HB.out)) hb); clear BK180; clear HB; have BK180 := n0_; have HB := n1_; clear n0_ n1_; (try clear hb); (try clear hb2); (try clear hk); (try clear hi)))
    go_ret
    exact ⟨by first | rfl | exact nEm _ | exact eEm _ | (simp [eWn, eWs] <;> rfl) | (simp [*, eWn, eWs] <;> rfl), by repeat (first | (with_reducible first | exact HB.out | apply aBl | apply pBd | apply dBl | refine sBl ?_ GE180.out) | exact HB.out)⟩
def spenceref24_Byte.f (a0 : Int) (a1 : Int) (a2 : Int) : Option (Int) := if a2 < 0 then (some 0) else ((spenceref24_Length.f a0 a1).bind fun t186 => (if a2 ≥ t186 then (some 0) else (some ((Int.tmod (wrap64 ((wrap64 ((wrap64 ((wrap64 (a0 * 7)) + (wrap64 (a1 * 13)))) + a2)) + (wrap64 (Int.tdiv (wrap64 (a2 * a2)) 3)))) 256) % 256))))
set_option maxHeartbeats 8000000 in
set_option maxRecDepth 100000 in
theorem spenceref24_Byte.calls (a0 : Int) (a1 : Int) (a2 : Int) (r : Int) (w : World) (h : spenceref24_Byte.f a0 a1 a2 = some r) :
    Calls Try.prog 34 #[.int .i64 a0, .int .i64 a1, .int .i64 a2] w fun e w' => e = .returned (.int .u8 r) ∧ Drawn0 w w' := by
  have H : (if a2 < 0 then (some 0) else ((spenceref24_Length.f a0 a1).bind fun t186 => (if a2 ≥ t186 then (some 0) else (some ((Int.tmod (wrap64 ((wrap64 ((wrap64 ((wrap64 (a0 * 7)) + (wrap64 (a1 * 13)))) + a2)) + (wrap64 (Int.tdiv (wrap64 (a2 * a2)) 3)))) 256) % 256))))) = some r := h
  clear h
  by_cases c4 : a2 < 0
  · rw [if_pos c4] at H
    have c4b0 : decide (a2 < 0) = true := decide_eq_true c4
    clear c4
    obtain rfl := Option.some.inj H
    go_enter Try.func34, Try.ntmps34
    go_wp2
    go_ret
    exact ⟨by first | rfl | (simp; done) | (simp [*]; done) | exact nEm _ | exact eEm _, by repeat (first | exact Drawn0.refl _ | apply Drawn0.step)⟩
  · rw [if_neg c4] at H
    have c4b0 : decide (a2 < 0) = false := decide_eq_false c4
    clear c4
    replace H := Option.bind_eq_some_iff.mp H
    obtain ⟨t186, A50, H⟩ := H
    replace H : (if a2 ≥ t186 then (some 0) else (some ((Int.tmod (wrap64 ((wrap64 ((wrap64 ((wrap64 (a0 * 7)) + (wrap64 (a1 * 13)))) + a2)) + (wrap64 (Int.tdiv (wrap64 (a2 * a2)) 3)))) 256) % 256))) = some r := H
    have A5 := AsZ.mk A50
    clear A50
    by_cases c6 : a2 ≥ t186
    · rw [if_pos c6] at H
      have c6b0 : decide (t186 ≤ a2) = true := decide_eq_true c6
      clear c6
      obtain rfl := Option.some.inj H
      go_enter Try.func34, Try.ntmps34
      go_wp2_with (first | (go_at_call 19; (with_reducible refine (spenceref24_Length.calls a0 a1 t186 _ A5.out).mono ?_); rintro e w' ⟨rfl, ⟨nd, rfl⟩⟩))
      go_ret
      exact ⟨by first | rfl | (simp; done) | (simp [*]; done) | exact nEm _ | exact eEm _, by repeat (first | exact Drawn0.refl _ | apply Drawn0.step)⟩
    · rw [if_neg c6] at H
      have c6b0 : decide (t186 ≤ a2) = false := decide_eq_false c6
      clear c6
      obtain rfl := Option.some.inj H
      go_enter Try.func34, Try.ntmps34
      go_wp2_with (first | (go_at_call 19; (with_reducible refine (spenceref24_Length.calls a0 a1 t186 _ A5.out).mono ?_); rintro e w' ⟨rfl, ⟨nd, rfl⟩⟩))
      go_ret
      exact ⟨by first | rfl | (simp; done) | (simp [*]; done) | exact nEm _ | exact eEm _, by repeat (first | exact Drawn0.refl _ | apply Drawn0.step)⟩
end Go.Proofs.Ytpphnjmppkbpbaa.PAll
namespace Go.Proofs.Ytpphnjmppkbpbaa.PAll
open Go.RowKit Go.Proofs.Ytpphnjmppkbpbaa.Xw Go.Proofs.YtpphnjmppkbpbaaW.PrintWords Go.Proofs.YtpphnjmppkbpbaaW.PrintLast Go.Proofs.YtpphnjmppkbpbaaW.PrintMore
attribute [local go_sem] max2_int min2_int max_two min_two max_three min_three max_four min_four
set_option linter.unusedVariables false
set_option linter.unusedSimpArgs false
def r1Cut.l0 : Nat → ByteArray → Int → Int → Option (ByteArray × ByteArray × Bool)
  | 0, _, _, _ => none
  | k + 1, x0, x1, x7 => if x7 < (x0.size : Int) then (if 0 ≤ x7 then (if (bt x0 x7) = x1 then (if x7 ≤ (x0.size : Int) then (if 0 ≤ (wrap64 (x7 + 1)) then (if (wrap64 (x7 + 1)) ≤ (x0.size : Int) then (some (x0.extract 0 (x7 : Int).toNat, x0.extract ((wrap64 (x7 + 1)) : Int).toNat x0.size, true)) else (none)) else (none)) else (none)) else (r1Cut.l0 k x0 x1 (wrap64 (x7 + 1)))) else (none)) else (some (x0, (⟨#[]⟩ : ByteArray), false))
def r1Cut.f (k : Nat) (a0 : ByteArray) (a1 : Int) : Option (ByteArray × ByteArray × Bool) := r1Cut.l0 k a0 a1 0
theorem r1Cut.mono_l : ∀ k, (∀ y0 y1 y2, LeO (r1Cut.l0 k y0 y1 y2) (r1Cut.l0 (k + 1) y0 y1 y2))
  | 0 => fun _ _ _ r h => by simp [r1Cut.l0] at h
  | k + 1 => by
    have ih0 := r1Cut.mono_l k
    · intro y0 y1 y2
      unfold r1Cut.l0
      repeat' first
      | (with_reducible exact ih0 _ _ _)
      | (with_reducible exact LeO.refl _)
      | (with_reducible exact LeO.none _)
      | (with_reducible refine LeO.ite ?_ ?_)
      | (with_reducible refine LeO.bind ?_ (fun _ => ?_))
      | exact ih0 _ _ _
      | exact LeO.none _
      | refine LeO.ite ?_ ?_
      | refine LeO.bind ?_ (fun _ => ?_)
theorem r1Cut.mono : ∀ a0 a1 k, LeO (r1Cut.f k a0 a1) (r1Cut.f (k + 1) a0 a1) := by
  intro a0 a1 k
  have ih0 := r1Cut.mono_l k
  unfold r1Cut.f
  repeat' first
      | (with_reducible exact ih0 _ _ _)
      | (with_reducible exact LeO.refl _)
      | (with_reducible exact LeO.none _)
      | (with_reducible refine LeO.ite ?_ ?_)
      | (with_reducible refine LeO.bind ?_ (fun _ => ?_))
      | exact ih0 _ _ _
      | exact LeO.none _
      | refine LeO.ite ?_ ?_
      | refine LeO.bind ?_ (fun _ => ?_)
set_option maxHeartbeats 8000000 in
set_option maxRecDepth 100000 in
theorem r1Cut.calls (k : Nat) (a0 : ByteArray) (a1 : Int) (r1 : ByteArray) (r2 : ByteArray) (r3 : Bool) (w : World) (h : r1Cut.f k a0 a1 = some (r1, r2, r3)) :
    Calls Try.prog 35 #[.string a0, .int .u8 a1] w fun e w' => e = .returned (.tuple #[.string r1, .string r2, .bool r3]) ∧ Drawn0 w w' := by
  have H : (r1Cut.l0 k a0 a1 0) = some (r1, r2, r3) := h
  clear h
  have H' := AsZ.mk H
  clear H
  go_enter Try.func35, Try.ntmps35
  go_wp2
  repeat (go_quiet (fail); try go_wp2)
  go_loopg [7] k (fun kq v7 w' => ∃ (x7_1 : Int), v7 = .int .i64 x7_1 ∧ AsZ (r1Cut.l0 kq a0 a1 x7_1 = some (r1, r2, r3)) ∧ AsZ (kq ≤ k) ∧ Drawn0 w w')
  case atStart => exact ⟨(0), (by first | rfl | (simp; done) | (simp [*]; done)), H', ⟨Nat.le_refl _⟩, by repeat (first | exact Drawn0.refl _ | apply Drawn0.step)⟩
  case round =>
    clear H'
    try clear p2
    obtain ⟨x7_1, rfl, HA, HK1, ⟨m1, rfl⟩⟩ := hrel
    cases gk with
    | zero => exact absurd HA.out (by simp [r1Cut.l0])
    | succ k1 =>
      have H := HA.out
      clear HA
      simp only [r1Cut.l0] at H
      by_cases c3 : x7_1 < (a0.size : Int)
      · rw [if_pos c3] at H
        have c3b0 : decide (x7_1 < (a0.size : Int)) = true := decide_eq_true c3
        clear c3
        by_cases c4 : 0 ≤ x7_1
        · rw [if_pos c4] at H
          have c4b0 : decide (0 ≤ x7_1) = true := decide_eq_true c4
          clear c4
          by_cases c6 : (bt a0 x7_1) = a1
          · rw [if_pos c6] at H
            have c6b0 : ((bt a0 x7_1) == a1) = true := beq_iff_eq.mpr c6
            have c6b1 : ((bt a0 x7_1) != a1) = false := bne_eq_false_iff_eq.mpr c6
            clear c6
            have c7b0 := eq_true (of_decide_eq_true (by first | (with_reducible assumption) | assumption) : 0 ≤ x7_1)
            by_cases c8 : x7_1 ≤ (a0.size : Int)
            · rw [if_pos c8] at H
              have c8b0 := eq_true c8
              have c8b1 : decide (x7_1 ≤ (a0.size : Int)) = true := decide_eq_true c8
              clear c8
              obtain ⟨ji9, hji9⟩ : ∃ j_ : Int, (wrap64 (x7_1 + 1)) = j_ := ⟨_, rfl⟩
              replace H : (if 0 ≤ (ji9) then (if (ji9) ≤ (a0.size : Int) then (some (a0.extract 0 (x7_1 : Int).toNat, a0.extract ((ji9) : Int).toNat a0.size, true)) else (none)) else (none)) = some (r1, r2, r3) := by first | (rw [hji9] at H; exact H) | (simp only [hji9] at H ⊢; exact H)
              have hji9w : (IntKind.i64.wrap (x7_1 + 1)) = ji9 := (i64_w _).trans hji9
              by_cases c10 : 0 ≤ (ji9)
              · rw [if_pos c10] at H
                have c10b0 := eq_true c10
                have c10b1 : decide (0 ≤ (ji9)) = true := decide_eq_true c10
                clear c10
                by_cases c11 : (ji9) ≤ (a0.size : Int)
                · rw [if_pos c11] at H
                  have c11b0 := eq_true c11
                  have c11b1 : decide ((ji9) ≤ (a0.size : Int)) = true := decide_eq_true c11
                  clear c11
                  simp only [Option.some.injEq, Prod.mk.injEq] at H
                  obtain ⟨rfl, rfl, rfl⟩ := H
                  have p5 : 0 ≤ (x7_1 : Int) := of_decide_eq_true (by first | (with_reducible assumption) | assumption)
                  have q5 : x7_1 < (a0.size : Int) := of_decide_eq_true (by first | (with_reducible assumption) | assumption)
                  have hx5 := bt_at a0 x7_1
                  replace p5 := eq_true p5
                  replace q5 := eq_true q5
                  go_wp2
                  repeat (go_quiet (fail); try go_wp2)
                  go_ret3
                  exact ⟨by first | rfl | (simp; done) | (simp only [← hji9] <;> (first | rfl | simp)) | (simp [*]; done), by repeat (first | exact Drawn0.refl _ | apply Drawn0.step)⟩
                · rw [if_neg c11] at H
                  exact absurd H (by simp)
              · rw [if_neg c10] at H
                exact absurd H (by simp)
            · rw [if_neg c8] at H
              exact absurd H (by simp)
          · rw [if_neg c6] at H
            have c6b0 : ((bt a0 x7_1) == a1) = false := beq_eq_false_iff_ne.mpr c6
            have c6b1 : ((bt a0 x7_1) != a1) = true := bne_iff_ne.mpr c6
            have H' := AsZ.mk H
            clear H
            have p5 : 0 ≤ (x7_1 : Int) := of_decide_eq_true (by first | (with_reducible assumption) | assumption)
            have q5 : x7_1 < (a0.size : Int) := of_decide_eq_true (by first | (with_reducible assumption) | assumption)
            have hx5 := bt_at a0 x7_1
            replace p5 := eq_true p5
            replace q5 := eq_true q5
            go_wp2
            repeat (go_quiet (fail); try go_wp2)
            go_roundg k1
            case measure => have := HK1.out; omega
            case rel => exact ⟨(wrap64 (x7_1 + 1)), (by first | rfl | (simp; done) | (simp [*]; done)), H', ⟨by have := HK1.out; omega⟩, by repeat (first | exact Drawn0.refl _ | apply Drawn0.step)⟩
        · rw [if_neg c4] at H
          exact absurd H (by simp)
      · rw [if_neg c3] at H
        have c3b0 : decide (x7_1 < (a0.size : Int)) = false := decide_eq_false c3
        clear c3
        simp only [Option.some.injEq, Prod.mk.injEq] at H
        obtain ⟨rfl, rfl, rfl⟩ := H
        go_wp2
        repeat (go_quiet (fail); try go_wp2)
        go_ret3
        exact ⟨by first | rfl | (simp; done) | (simp [*]; done) | exact nEm _ | exact eEm _, by repeat (first | exact Drawn0.refl _ | apply Drawn0.step)⟩
def r1Low.l0 : Nat → ByteArray → ByteArray → Int → Option (ByteArray)
  | 0, _, _, _ => none
  | k + 1, x0, x3, x4 => if x4 < (x0.size : Int) then (if 0 ≤ x4 then (if (bt x0 x4) ≥ 65 then (if (bt x0 x4) ≤ 90 then ((some (([((bt x0 x4) + 32) % 256] : List Int) : List Int)).bind fun y204 => (if x3.size + ((strOfNums y204).size) ≤ 9223372036854775807 then (r1Low.l0 k x0 (x3 ++ (strOfNums y204)) (wrap64 (x4 + 1))) else (none))) else ((some (([bt x0 x4] : List Int) : List Int)).bind fun y207 => (if x3.size + ((strOfNums y207).size) ≤ 9223372036854775807 then (r1Low.l0 k x0 (x3 ++ (strOfNums y207)) (wrap64 (x4 + 1))) else (none)))) else ((some (([bt x0 x4] : List Int) : List Int)).bind fun y210 => (if x3.size + ((strOfNums y210).size) ≤ 9223372036854775807 then (r1Low.l0 k x0 (x3 ++ (strOfNums y210)) (wrap64 (x4 + 1))) else (none)))) else (none)) else (some x3)
def r1Low.f (k : Nat) (a0 : ByteArray) : Option (ByteArray) := r1Low.l0 k a0 (⟨#[]⟩ : ByteArray) 0
theorem r1Low.mono_l : ∀ k, (∀ y0 y1 y2, LeO (r1Low.l0 k y0 y1 y2) (r1Low.l0 (k + 1) y0 y1 y2))
  | 0 => fun _ _ _ r h => by simp [r1Low.l0] at h
  | k + 1 => by
    have ih0 := r1Low.mono_l k
    · intro y0 y1 y2
      unfold r1Low.l0
      repeat' first
      | (with_reducible exact ih0 _ _ _)
      | (with_reducible exact LeO.refl _)
      | (with_reducible exact LeO.none _)
      | (with_reducible refine LeO.ite ?_ ?_)
      | (with_reducible refine LeO.bind ?_ (fun _ => ?_))
      | exact ih0 _ _ _
      | exact LeO.none _
      | refine LeO.ite ?_ ?_
      | refine LeO.bind ?_ (fun _ => ?_)
theorem r1Low.mono : ∀ a0 k, LeO (r1Low.f k a0) (r1Low.f (k + 1) a0) := by
  intro a0 k
  have ih0 := r1Low.mono_l k
  unfold r1Low.f
  repeat' first
      | (with_reducible exact ih0 _ _ _)
      | (with_reducible exact LeO.refl _)
      | (with_reducible exact LeO.none _)
      | (with_reducible refine LeO.ite ?_ ?_)
      | (with_reducible refine LeO.bind ?_ (fun _ => ?_))
      | exact ih0 _ _ _
      | exact LeO.none _
      | refine LeO.ite ?_ ?_
      | refine LeO.bind ?_ (fun _ => ?_)
set_option maxHeartbeats 8000000 in
set_option maxRecDepth 100000 in
theorem r1Low.calls (k : Nat) (a0 : ByteArray) (r : ByteArray) (w : World) (h : r1Low.f k a0 = some r) :
    Calls Try.prog 36 #[.string a0] w fun e w' => e = .returned (.string r) ∧ Below w.heap.size w w' := by
  have HB := AsZ.mk (Below.refl w.heap.size w)
  have H : (r1Low.l0 k a0 (⟨#[]⟩ : ByteArray) 0) = some r := h
  clear h
  have H' := AsZ.mk H
  clear H
  go_enter Try.func36, Try.ntmps36
  go_wp2
  go_loopg [3, 4] k (fun kq v3 v4 w' => ∃ (x3_1 : ByteArray) (x4_1 : Int), v3 = .string x3_1 ∧ v4 = .int .i64 x4_1 ∧ AsZ (r1Low.l0 kq a0 x3_1 x4_1 = some r) ∧ AsZ (kq ≤ k) ∧ AsZ (Below w.heap.size w w'))
  case atStart => exact ⟨((⟨#[]⟩ : ByteArray)), (0), (by first | rfl | (simp; done) | (simp [*]; done)), (by first | rfl | (simp; done) | (simp [*]; done)), H', ⟨Nat.le_refl _⟩, ⟨by repeat (first | (with_reducible first | exact HB.out | apply aBl | apply pBd | apply dBl) | exact HB.out)⟩⟩
  case round =>
    clear H'
    obtain ⟨x3_1, x4_1, rfl, rfl, HA, HK1, HB⟩ := hrel
    cases gk with
    | zero => exact absurd HA.out (by simp [r1Low.l0])
    | succ k1 =>
      have H := HA.out
      clear HA
      simp only [r1Low.l0] at H
      by_cases c2 : x4_1 < (a0.size : Int)
      · rw [if_pos c2] at H
        have c2b0 : decide (x4_1 < (a0.size : Int)) = true := decide_eq_true c2
        clear c2
        by_cases c3 : 0 ≤ x4_1
        · rw [if_pos c3] at H
          have c3b0 : decide (0 ≤ x4_1) = true := decide_eq_true c3
          clear c3
          by_cases c5 : (bt a0 x4_1) ≥ 65
          · rw [if_pos c5] at H
            have c5b0 : decide (65 ≤ (bt a0 x4_1)) = true := decide_eq_true c5
            clear c5
            by_cases c6 : (bt a0 x4_1) ≤ 90
            · rw [if_pos c6] at H
              have c6b0 : decide ((bt a0 x4_1) ≤ 90) = true := decide_eq_true c6
              clear c6
              obtain ⟨y204, hy204⟩ : ∃ y_ : List Int, y_ = (([((bt a0 x4_1) + 32) % 256] : List Int)) := ⟨_, rfl⟩
              replace H : (if x3_1.size + ((strOfNums y204).size) ≤ 9223372036854775807 then (r1Low.l0 k1 a0 (x3_1 ++ (strOfNums y204)) (wrap64 (x4_1 + 1))) else (none)) = some r := by first | (rw [hy204]; with_reducible exact H) | (have H2_ := (Option.bind_some _ _).symm.trans H; rw [hy204]; with_reducible exact H2_) | (have H2_ := (Option.bind_some _ _).symm.trans H; with_reducible exact H2_) | with_reducible exact H | (rw [hy204]; exact H) | exact H
              have Ny204 := AsZ.mk hy204
              clear hy204
              by_cases c7 : x3_1.size + ((strOfNums y204).size) ≤ 9223372036854775807
              · rw [if_pos c7] at H
                have c7b0 := eq_true c7
                have c7b1 : decide (x3_1.size + ((strOfNums y204).size) ≤ 9223372036854775807) = true := decide_eq_true c7
                try have c7b2 : (9223372036854775807 < x3_1.size + ((strOfNums y204).size)) = False := eq_false (Nat.not_lt.2 c7)
                have H' := AsZ.mk H
                clear H
                have p4 : 0 ≤ (x4_1 : Int) := of_decide_eq_true (by first | (with_reducible assumption) | assumption)
                have q4 : x4_1 < (a0.size : Int) := of_decide_eq_true (by first | (with_reducible assumption) | assumption)
                have hx4 := bt_at a0 x4_1
                replace p4 := eq_true p4
                replace q4 := eq_true q4
                go_wp2_with (first | ((with_reducible refine gDs (N := 25) rfl ?_); refine Kd.R_lit (Kd.int .u8) _ 5 ?hg (N := 25) ?hd (xs := ([((bt a0 x4_1) + 32) % 256] : List Int)) (inner := [.int .u8 (((bt a0 x4_1) + 32) % 256)]) (ok := fun _ => True) (okp := fun _ => True) ?hr ?hp (fun _ hk => hk) trivial (Below.refl _ _) (Nat.le_refl _) (by simp) ?_; (case hd => rfl); (case hg => rfl); (case hr => first | (go_simp; done) | (go_simp; rfl)); (case hp => exact (Reps.one (show Kd.M (Kd.int .u8) _ _ _ (((bt a0 x4_1) + 32) % 256) [.int .u8 (((bt a0 x4_1) + 32) % 256)] from rfl) (Reps.none _ _))); intro v205 w8 ho9 hb hg_ hnew_; clear hg_ hnew_; (first | rw [← Ny204.out] at ho9 | (simp only [Int.reduceToNat] at ho9; rw [← Ny204.out] at ho9)); have n0_ := AsZ.mk (Kd.R_lower ho9 (zBl (by repeat (first | (with_reducible first | exact HB.out | apply aBl | apply pBd | apply dBl) | exact HB.out)))); have n1_ := AsZ.mk (tBl (by repeat (first | (with_reducible first | exact HB.out | apply aBl | apply pBd | apply dBl) | exact HB.out)) hb); clear HB; have HO206 := n0_; have HB := n1_; clear n0_ n1_; clear hb ho9; have hcv10 := own_string (P := Try.prog) Try.underlying38 Try.underlying5 Try.underlying9 (Kd.own_of_R HO206.out)))
                go_roundg k1
                case measure => have := HK1.out; omega
                case rel => exact ⟨(x3_1 ++ (strOfNums y204)), (wrap64 (x4_1 + 1)), (by first | rfl | (simp; done) | (simp [*]; done)), (by first | rfl | (simp; done) | (simp [*]; done)), H', ⟨by have := HK1.out; omega⟩, ⟨by repeat (first | (with_reducible first | exact HB.out | apply aBl | apply pBd | apply dBl) | exact HB.out)⟩⟩
              · rw [if_neg c7] at H
                exact absurd H (by simp)
            · rw [if_neg c6] at H
              have c6b0 : decide ((bt a0 x4_1) ≤ 90) = false := decide_eq_false c6
              clear c6
              obtain ⟨y207, hy207⟩ : ∃ y_ : List Int, y_ = (([bt a0 x4_1] : List Int)) := ⟨_, rfl⟩
              replace H : (if x3_1.size + ((strOfNums y207).size) ≤ 9223372036854775807 then (r1Low.l0 k1 a0 (x3_1 ++ (strOfNums y207)) (wrap64 (x4_1 + 1))) else (none)) = some r := by first | (rw [hy207]; with_reducible exact H) | (have H2_ := (Option.bind_some _ _).symm.trans H; rw [hy207]; with_reducible exact H2_) | (have H2_ := (Option.bind_some _ _).symm.trans H; with_reducible exact H2_) | with_reducible exact H | (rw [hy207]; exact H) | exact H
              have Ny207 := AsZ.mk hy207
              clear hy207
              by_cases c11 : x3_1.size + ((strOfNums y207).size) ≤ 9223372036854775807
              · rw [if_pos c11] at H
                have c11b0 := eq_true c11
                have c11b1 : decide (x3_1.size + ((strOfNums y207).size) ≤ 9223372036854775807) = true := decide_eq_true c11
                try have c11b2 : (9223372036854775807 < x3_1.size + ((strOfNums y207).size)) = False := eq_false (Nat.not_lt.2 c11)
                have H' := AsZ.mk H
                clear H
                have p4 : 0 ≤ (x4_1 : Int) := of_decide_eq_true (by first | (with_reducible assumption) | assumption)
                have q4 : x4_1 < (a0.size : Int) := of_decide_eq_true (by first | (with_reducible assumption) | assumption)
                have hx4 := bt_at a0 x4_1
                replace p4 := eq_true p4
                replace q4 := eq_true q4
                go_wp2_with (first | ((with_reducible refine gDs (N := 25) rfl ?_); refine Kd.R_lit (Kd.int .u8) _ 5 ?hg (N := 25) ?hd (xs := ([bt a0 x4_1] : List Int)) (inner := [.int .u8 (bt a0 x4_1)]) (ok := fun _ => True) (okp := fun _ => True) ?hr ?hp (fun _ hk => hk) trivial (Below.refl _ _) (Nat.le_refl _) (by simp) ?_; (case hd => rfl); (case hg => rfl); (case hr => first | (go_simp; done) | (go_simp; rfl)); (case hp => exact (Reps.one (show Kd.M (Kd.int .u8) _ _ _ (bt a0 x4_1) [.int .u8 (bt a0 x4_1)] from rfl) (Reps.none _ _))); intro v208 w12 ho13 hb hg_ hnew_; clear hg_ hnew_; (first | rw [← Ny207.out] at ho13 | (simp only [Int.reduceToNat] at ho13; rw [← Ny207.out] at ho13)); have n0_ := AsZ.mk (Kd.R_lower ho13 (zBl (by repeat (first | (with_reducible first | exact HB.out | apply aBl | apply pBd | apply dBl) | exact HB.out)))); have n1_ := AsZ.mk (tBl (by repeat (first | (with_reducible first | exact HB.out | apply aBl | apply pBd | apply dBl) | exact HB.out)) hb); clear HB; have HO209 := n0_; have HB := n1_; clear n0_ n1_; clear hb ho13; have hcv14 := own_string (P := Try.prog) Try.underlying38 Try.underlying5 Try.underlying9 (Kd.own_of_R HO209.out)))
                go_roundg k1
                case measure => have := HK1.out; omega
                case rel => exact ⟨(x3_1 ++ (strOfNums y207)), (wrap64 (x4_1 + 1)), (by first | rfl | (simp; done) | (simp [*]; done)), (by first | rfl | (simp; done) | (simp [*]; done)), H', ⟨by have := HK1.out; omega⟩, ⟨by repeat (first | (with_reducible first | exact HB.out | apply aBl | apply pBd | apply dBl) | exact HB.out)⟩⟩
              · rw [if_neg c11] at H
                exact absurd H (by simp)
          · rw [if_neg c5] at H
            have c5b0 : decide (65 ≤ (bt a0 x4_1)) = false := decide_eq_false c5
            clear c5
            obtain ⟨y210, hy210⟩ : ∃ y_ : List Int, y_ = (([bt a0 x4_1] : List Int)) := ⟨_, rfl⟩
            replace H : (if x3_1.size + ((strOfNums y210).size) ≤ 9223372036854775807 then (r1Low.l0 k1 a0 (x3_1 ++ (strOfNums y210)) (wrap64 (x4_1 + 1))) else (none)) = some r := by first | (rw [hy210]; with_reducible exact H) | (have H2_ := (Option.bind_some _ _).symm.trans H; rw [hy210]; with_reducible exact H2_) | (have H2_ := (Option.bind_some _ _).symm.trans H; with_reducible exact H2_) | with_reducible exact H | (rw [hy210]; exact H) | exact H
            have Ny210 := AsZ.mk hy210
            clear hy210
            by_cases c15 : x3_1.size + ((strOfNums y210).size) ≤ 9223372036854775807
            · rw [if_pos c15] at H
              have c15b0 := eq_true c15
              have c15b1 : decide (x3_1.size + ((strOfNums y210).size) ≤ 9223372036854775807) = true := decide_eq_true c15
              try have c15b2 : (9223372036854775807 < x3_1.size + ((strOfNums y210).size)) = False := eq_false (Nat.not_lt.2 c15)
              have H' := AsZ.mk H
              clear H
              have p4 : 0 ≤ (x4_1 : Int) := of_decide_eq_true (by first | (with_reducible assumption) | assumption)
              have q4 : x4_1 < (a0.size : Int) := of_decide_eq_true (by first | (with_reducible assumption) | assumption)
              have hx4 := bt_at a0 x4_1
              replace p4 := eq_true p4
              replace q4 := eq_true q4
              go_wp2_with (first | ((with_reducible refine gDs (N := 25) rfl ?_); refine Kd.R_lit (Kd.int .u8) _ 5 ?hg (N := 25) ?hd (xs := ([bt a0 x4_1] : List Int)) (inner := [.int .u8 (bt a0 x4_1)]) (ok := fun _ => True) (okp := fun _ => True) ?hr ?hp (fun _ hk => hk) trivial (Below.refl _ _) (Nat.le_refl _) (by simp) ?_; (case hd => rfl); (case hg => rfl); (case hr => first | (go_simp; done) | (go_simp; rfl)); (case hp => exact (Reps.one (show Kd.M (Kd.int .u8) _ _ _ (bt a0 x4_1) [.int .u8 (bt a0 x4_1)] from rfl) (Reps.none _ _))); intro v211 w16 ho17 hb hg_ hnew_; clear hg_ hnew_; (first | rw [← Ny210.out] at ho17 | (simp only [Int.reduceToNat] at ho17; rw [← Ny210.out] at ho17)); have n0_ := AsZ.mk (Kd.R_lower ho17 (zBl (by repeat (first | (with_reducible first | exact HB.out | apply aBl | apply pBd | apply dBl) | exact HB.out)))); have n1_ := AsZ.mk (tBl (by repeat (first | (with_reducible first | exact HB.out | apply aBl | apply pBd | apply dBl) | exact HB.out)) hb); clear HB; have HO212 := n0_; have HB := n1_; clear n0_ n1_; clear hb ho17; have hcv18 := own_string (P := Try.prog) Try.underlying38 Try.underlying5 Try.underlying9 (Kd.own_of_R HO212.out)))
              go_roundg k1
              case measure => have := HK1.out; omega
              case rel => exact ⟨(x3_1 ++ (strOfNums y210)), (wrap64 (x4_1 + 1)), (by first | rfl | (simp; done) | (simp [*]; done)), (by first | rfl | (simp; done) | (simp [*]; done)), H', ⟨by have := HK1.out; omega⟩, ⟨by repeat (first | (with_reducible first | exact HB.out | apply aBl | apply pBd | apply dBl) | exact HB.out)⟩⟩
            · rw [if_neg c15] at H
              exact absurd H (by simp)
        · rw [if_neg c3] at H
          exact absurd H (by simp)
      · rw [if_neg c2] at H
        have c2b0 : decide (x4_1 < (a0.size : Int)) = false := decide_eq_false c2
        clear c2
        obtain rfl := Option.some.inj H
        go_wp2
        go_ret
        exact ⟨by first | rfl | exact nEm _ | exact eEm _ | (simp [eWn, eWs] <;> rfl) | (simp [*, eWn, eWs] <;> rfl), by repeat (first | (with_reducible first | exact HB.out | apply aBl | apply pBd | apply dBl) | exact HB.out)⟩
def spenceref01_Digit.f (a0 : Int) : Option (Bool) := if a0 ≥ 48 then (some (decide (a0 ≤ 57))) else (some false)
set_option maxHeartbeats 8000000 in
set_option maxRecDepth 100000 in
theorem spenceref01_Digit.calls (a0 : Int) (r : Bool) (w : World) (h : spenceref01_Digit.f a0 = some r) :
    Calls Try.prog 48 #[.int .u8 a0] w fun e w' => e = .returned (.bool r) ∧ Drawn0 w w' := by
  have H : (if a0 ≥ 48 then (some (decide (a0 ≤ 57))) else (some false)) = some r := h
  clear h
  by_cases c2 : a0 ≥ 48
  · rw [if_pos c2] at H
    have c2b0 : decide (48 ≤ a0) = true := decide_eq_true c2
    clear c2
    obtain rfl := Option.some.inj H
    go_enter Try.func48, Try.ntmps48
    go_wp2
    go_ret
    exact ⟨by first | rfl | (simp; done) | (simp [*]; done) | exact nEm _ | exact eEm _, by repeat (first | exact Drawn0.refl _ | apply Drawn0.step)⟩
  · rw [if_neg c2] at H
    have c2b0 : decide (48 ≤ a0) = false := decide_eq_false c2
    clear c2
    obtain rfl := Option.some.inj H
    go_enter Try.func48, Try.ntmps48
    go_wp2
    go_ret
    exact ⟨by first | rfl | (simp; done) | (simp [*]; done) | exact nEm _ | exact eEm _, by repeat (first | exact Drawn0.refl _ | apply Drawn0.step)⟩
end Go.Proofs.Ytpphnjmppkbpbaa.PAll
namespace Go.Proofs.Ytpphnjmppkbpbaa.PAll
open Go.RowKit Go.Proofs.Ytpphnjmppkbpbaa.Xw Go.Proofs.YtpphnjmppkbpbaaW.PrintWords Go.Proofs.YtpphnjmppkbpbaaW.PrintLast Go.Proofs.YtpphnjmppkbpbaaW.PrintMore
attribute [local go_sem] max2_int min2_int max_two min_two max_three min_three max_four min_four
set_option linter.unusedVariables false
set_option linter.unusedSimpArgs false
mutual
def r1Pars.l0 : Nat → ByteArray → Int → Option (Int × Int)
  | 0, _, _ => none
  | k + 1, x0, x4 => if x4 < (x0.size : Int) then (if 0 ≤ x4 then ((spenceref01_Digit.f (bt x0 x4)).bind fun t213 => (if t213 = true then (r1Pars.l0 k x0 (wrap64 (x4 + 1))) else (some (0, 3)))) else (none)) else (r1Pars.l1 k x0 0)
def r1Pars.j2 : Nat → ByteArray → Int → Option (Int × Int)
  | 0, _, _ => none
  | k + 1, x0, x5 => if 0 ≤ x5 then (if x5 ≤ (x0.size : Int) then (if ((x0.extract (x5 : Int).toNat x0.size).size : Int) > 19 then (r1Pars.j3 k (x0.extract (x5 : Int).toNat x0.size) true) else (if ((x0.extract (x5 : Int).toNat x0.size).size : Int) = 19 then (r1Pars.j3 k (x0.extract (x5 : Int).toNat x0.size) (!(Op.bytesLess ((x0.extract (x5 : Int).toNat x0.size).toList) ([52, 54, 49, 49, 54, 56, 54, 48, 49, 56, 52, 50, 55, 51, 56, 55, 57, 48, 51] : List UInt8) || ((x0.extract (x5 : Int).toNat x0.size).toList) == ([52, 54, 49, 49, 54, 56, 54, 48, 49, 56, 52, 50, 55, 51, 56, 55, 57, 48, 51] : List UInt8)))) else (r1Pars.j3 k (x0.extract (x5 : Int).toNat x0.size) false))) else (none)) else (none)
def r1Pars.j3 : Nat → ByteArray → Bool → Option (Int × Int)
  | 0, _, _ => none
  | k + 1, x6, x50 => if x50 = true then (some (0, 9)) else (r1Pars.l2 k x6 0 0)
def r1Pars.l2 : Nat → ByteArray → Int → Int → Option (Int × Int)
  | 0, _, _, _ => none
  | k + 1, x6, x7, x8 => if x8 < (x6.size : Int) then (if 0 ≤ x8 then (r1Pars.l2 k x6 (wrap64 ((wrap64 ((wrap64 (10 * x7)) + (wrap64 (bt x6 x8)))) - 48)) (wrap64 (x8 + 1))) else (none)) else (some (x7, 0))
def r1Pars.l1 : Nat → ByteArray → Int → Option (Int × Int)
  | 0, _, _ => none
  | k + 1, x0, x5 => if x5 < (wrap64 ((x0.size : Int) - 1)) then (if 0 ≤ x5 then (if x5 < (x0.size : Int) then (if (bt x0 x5) = 48 then (r1Pars.l1 k x0 (wrap64 (x5 + 1))) else (r1Pars.j2 k x0 x5)) else (none)) else (none)) else (r1Pars.j2 k x0 x5)
end
def r1Pars.f (k : Nat) (a0 : ByteArray) : Option (Int × Int) := if (a0.size : Int) = 0 then (some (0, 3)) else (r1Pars.l0 k a0 0)
theorem r1Pars.mono_l : ∀ k, (∀ y0 y1, LeO (r1Pars.l0 k y0 y1) (r1Pars.l0 (k + 1) y0 y1)) ∧ (∀ y0 y1, LeO (r1Pars.j2 k y0 y1) (r1Pars.j2 (k + 1) y0 y1)) ∧ (∀ y0 y1, LeO (r1Pars.j3 k y0 y1) (r1Pars.j3 (k + 1) y0 y1)) ∧ (∀ y0 y1 y2, LeO (r1Pars.l2 k y0 y1 y2) (r1Pars.l2 (k + 1) y0 y1 y2)) ∧ (∀ y0 y1, LeO (r1Pars.l1 k y0 y1) (r1Pars.l1 (k + 1) y0 y1))
  | 0 => ⟨fun _ _ r h => by simp [r1Pars.l0] at h, fun _ _ r h => by simp [r1Pars.j2] at h, fun _ _ r h => by simp [r1Pars.j3] at h, fun _ _ _ r h => by simp [r1Pars.l2] at h, fun _ _ r h => by simp [r1Pars.l1] at h⟩
  | k + 1 => by
    obtain ⟨ih0, ih1, ih2, ih3, ih4⟩ := r1Pars.mono_l k
    refine ⟨?_, ?_, ?_, ?_, ?_⟩
    · intro y0 y1
      unfold r1Pars.l0
      repeat' first
      | (with_reducible exact ih0 _ _)
      | (with_reducible exact ih1 _ _)
      | (with_reducible exact ih2 _ _)
      | (with_reducible exact ih3 _ _ _)
      | (with_reducible exact ih4 _ _)
      | (with_reducible exact LeO.refl _)
      | (with_reducible exact LeO.none _)
      | (with_reducible refine LeO.ite ?_ ?_)
      | (with_reducible refine LeO.bind ?_ (fun _ => ?_))
      | exact ih0 _ _
      | exact ih1 _ _
      | exact ih2 _ _
      | exact ih3 _ _ _
      | exact ih4 _ _
      | exact LeO.none _
      | refine LeO.ite ?_ ?_
      | refine LeO.bind ?_ (fun _ => ?_)
    · intro y0 y1
      unfold r1Pars.j2
      repeat' first
      | (with_reducible exact ih0 _ _)
      | (with_reducible exact ih1 _ _)
      | (with_reducible exact ih2 _ _)
      | (with_reducible exact ih3 _ _ _)
      | (with_reducible exact ih4 _ _)
      | (with_reducible exact LeO.refl _)
      | (with_reducible exact LeO.none _)
      | (with_reducible refine LeO.ite ?_ ?_)
      | (with_reducible refine LeO.bind ?_ (fun _ => ?_))
      | exact ih0 _ _
      | exact ih1 _ _
      | exact ih2 _ _
      | exact ih3 _ _ _
      | exact ih4 _ _
      | exact LeO.none _
      | refine LeO.ite ?_ ?_
      | refine LeO.bind ?_ (fun _ => ?_)
    · intro y0 y1
      unfold r1Pars.j3
      repeat' first
      | (with_reducible exact ih0 _ _)
      | (with_reducible exact ih1 _ _)
      | (with_reducible exact ih2 _ _)
      | (with_reducible exact ih3 _ _ _)
      | (with_reducible exact ih4 _ _)
      | (with_reducible exact LeO.refl _)
      | (with_reducible exact LeO.none _)
      | (with_reducible refine LeO.ite ?_ ?_)
      | (with_reducible refine LeO.bind ?_ (fun _ => ?_))
      | exact ih0 _ _
      | exact ih1 _ _
      | exact ih2 _ _
      | exact ih3 _ _ _
      | exact ih4 _ _
      | exact LeO.none _
      | refine LeO.ite ?_ ?_
      | refine LeO.bind ?_ (fun _ => ?_)
    · intro y0 y1 y2
      unfold r1Pars.l2
      repeat' first
      | (with_reducible exact ih0 _ _)
      | (with_reducible exact ih1 _ _)
      | (with_reducible exact ih2 _ _)
      | (with_reducible exact ih3 _ _ _)
      | (with_reducible exact ih4 _ _)
      | (with_reducible exact LeO.refl _)
      | (with_reducible exact LeO.none _)
      | (with_reducible refine LeO.ite ?_ ?_)
      | (with_reducible refine LeO.bind ?_ (fun _ => ?_))
      | exact ih0 _ _
      | exact ih1 _ _
      | exact ih2 _ _
      | exact ih3 _ _ _
      | exact ih4 _ _
      | exact LeO.none _
      | refine LeO.ite ?_ ?_
      | refine LeO.bind ?_ (fun _ => ?_)
    · intro y0 y1
      unfold r1Pars.l1
      repeat' first
      | (with_reducible exact ih0 _ _)
      | (with_reducible exact ih1 _ _)
      | (with_reducible exact ih2 _ _)
      | (with_reducible exact ih3 _ _ _)
      | (with_reducible exact ih4 _ _)
      | (with_reducible exact LeO.refl _)
      | (with_reducible exact LeO.none _)
      | (with_reducible refine LeO.ite ?_ ?_)
      | (with_reducible refine LeO.bind ?_ (fun _ => ?_))
      | exact ih0 _ _
      | exact ih1 _ _
      | exact ih2 _ _
      | exact ih3 _ _ _
      | exact ih4 _ _
      | exact LeO.none _
      | refine LeO.ite ?_ ?_
      | refine LeO.bind ?_ (fun _ => ?_)
theorem r1Pars.mono : ∀ a0 k, LeO (r1Pars.f k a0) (r1Pars.f (k + 1) a0) := by
  intro a0 k
  obtain ⟨ih0, ih1, ih2, ih3, ih4⟩ := r1Pars.mono_l k
  unfold r1Pars.f
  repeat' first
      | (with_reducible exact ih0 _ _)
      | (with_reducible exact ih1 _ _)
      | (with_reducible exact ih2 _ _)
      | (with_reducible exact ih3 _ _ _)
      | (with_reducible exact ih4 _ _)
      | (with_reducible exact LeO.refl _)
      | (with_reducible exact LeO.none _)
      | (with_reducible refine LeO.ite ?_ ?_)
      | (with_reducible refine LeO.bind ?_ (fun _ => ?_))
      | exact ih0 _ _
      | exact ih1 _ _
      | exact ih2 _ _
      | exact ih3 _ _ _
      | exact ih4 _ _
      | exact LeO.none _
      | refine LeO.ite ?_ ?_
      | refine LeO.bind ?_ (fun _ => ?_)
set_option maxHeartbeats 8000000 in
set_option maxRecDepth 100000 in
theorem r1Pars.calls (k : Nat) (a0 : ByteArray) (r1 : Int) (r2 : Int) (w : World) (h : r1Pars.f k a0 = some (r1, r2)) :
    Calls Try.prog 37 #[.string a0] w fun e w' => e = .returned (.tuple #[.int .i64 r1, .int .i64 r2]) ∧ Drawn0 w w' := by
  have H : (if (a0.size : Int) = 0 then (some (0, 3)) else (r1Pars.l0 k a0 0)) = some (r1, r2) := h
  clear h
  by_cases c2 : (a0.size : Int) = 0
  · rw [if_pos c2] at H
    have c2b0 : ((a0.size : Int) == 0) = true := beq_iff_eq.mpr c2
    have c2b1 : ((a0.size : Int) != 0) = false := bne_eq_false_iff_eq.mpr c2
    clear c2
    simp only [Option.some.injEq, Prod.mk.injEq] at H
    obtain ⟨rfl, rfl⟩ := H
    go_enter Try.func37, Try.ntmps37
    go_wp2
    go_ret2
    exact ⟨by first | rfl | (simp; done) | (simp [*]; done) | exact nEm _ | exact eEm _, by repeat (first | exact Drawn0.refl _ | apply Drawn0.step)⟩
  · rw [if_neg c2] at H
    have c2b0 : ((a0.size : Int) == 0) = false := beq_eq_false_iff_ne.mpr c2
    have c2b1 : ((a0.size : Int) != 0) = true := bne_iff_ne.mpr c2
    have H' := AsZ.mk H
    clear H
    go_enter Try.func37, Try.ntmps37
    go_wp2
    go_loopg [4] k (fun kq v4 w' => ∃ (x4_1 : Int), v4 = .int .i64 x4_1 ∧ AsZ (r1Pars.l0 kq a0 x4_1 = some (r1, r2)) ∧ AsZ (kq ≤ k) ∧ Drawn0 w w')
    case atStart => exact ⟨(0), (by first | rfl | (simp; done) | (simp [*]; done)), H', ⟨Nat.le_refl _⟩, by repeat (first | exact Drawn0.refl _ | apply Drawn0.step)⟩
    case round =>
      clear H'
      try clear c2
      try clear c2b0
      try clear c2b1
      try clear p2
      obtain ⟨x4_1, rfl, HA, HK1, ⟨m1, rfl⟩⟩ := hrel
      cases gk with
      | zero => exact absurd HA.out (by simp [r1Pars.l0])
      | succ k1 =>
        have H := HA.out
        clear HA
        simp only [r1Pars.l0] at H
        by_cases c3 : x4_1 < (a0.size : Int)
        · rw [if_pos c3] at H
          have c3b0 : decide (x4_1 < (a0.size : Int)) = true := decide_eq_true c3
          clear c3
          by_cases c4 : 0 ≤ x4_1
          · rw [if_pos c4] at H
            have c4b0 : decide (0 ≤ x4_1) = true := decide_eq_true c4
            clear c4
            replace H := Option.bind_eq_some_iff.mp H
            obtain ⟨t213, A60, H⟩ := H
            replace H : (if t213 = true then (r1Pars.l0 k1 a0 (wrap64 (x4_1 + 1))) else (some (0, 3))) = some (r1, r2) := H
            have A6 := AsZ.mk A60
            clear A60
            by_cases c7 : t213 = true
            · subst c7
              have H1 : (r1Pars.l0 k1 a0 (wrap64 (x4_1 + 1))) = some (r1, r2) := by rw [if_pos rfl] at H; exact H
              clear H
              have H := H1
              clear H1
              have H' := AsZ.mk H
              clear H
              have p5 : 0 ≤ (x4_1 : Int) := of_decide_eq_true (by first | (with_reducible assumption) | assumption)
              have q5 : x4_1 < (a0.size : Int) := of_decide_eq_true (by first | (with_reducible assumption) | assumption)
              have hx5 := bt_at a0 x4_1
              replace p5 := eq_true p5
              replace q5 := eq_true q5
              go_wp2_with (first | ((with_reducible refine gCa (f := 48) rfl ?_); refine gLl (some 21) rfl rfl Try.func48 (by kernel_rfl) rfl #[.int .u8 (bt a0 x4_1)] rfl (by (try simp only [lsD, lsE, lsF]); first | done | rfl | (simp only [lsG, lsH]; rfl)) ?_; (with_reducible refine (spenceref01_Digit.calls (bt a0 x4_1) true _ A6.out).mono ?_); rintro e w' ⟨rfl, ⟨nd, rfl⟩⟩; refine ⟨_, rfl, ?_⟩))
              go_roundg k1
              case measure => have := HK1.out; omega
              case rel => exact ⟨(wrap64 (x4_1 + 1)), (by first | rfl | (simp; done) | (simp [*]; done)), H', ⟨by have := HK1.out; omega⟩, by repeat (first | exact Drawn0.refl _ | apply Drawn0.step)⟩
            · replace c7 := Bool.eq_false_iff.mpr c7
              subst c7
              have H1 : (some (0, 3)) = some (r1, r2) := by rw [if_neg (show ¬ (false = true) by decide)] at H; exact H
              clear H
              have H := H1
              clear H1
              simp only [Option.some.injEq, Prod.mk.injEq] at H
              obtain ⟨rfl, rfl⟩ := H
              have p5 : 0 ≤ (x4_1 : Int) := of_decide_eq_true (by first | (with_reducible assumption) | assumption)
              have q5 : x4_1 < (a0.size : Int) := of_decide_eq_true (by first | (with_reducible assumption) | assumption)
              have hx5 := bt_at a0 x4_1
              replace p5 := eq_true p5
              replace q5 := eq_true q5
              go_wp2_with (first | ((with_reducible refine gCa (f := 48) rfl ?_); refine gLl (some 21) rfl rfl Try.func48 (by kernel_rfl) rfl #[.int .u8 (bt a0 x4_1)] rfl (by (try simp only [lsD, lsE, lsF]); first | done | rfl | (simp only [lsG, lsH]; rfl)) ?_; (with_reducible refine (spenceref01_Digit.calls (bt a0 x4_1) false _ A6.out).mono ?_); rintro e w' ⟨rfl, ⟨nd, rfl⟩⟩; refine ⟨_, rfl, ?_⟩))
              go_ret2
              exact ⟨by first | rfl | (simp; done) | (simp [*]; done) | exact nEm _ | exact eEm _, by repeat (first | exact Drawn0.refl _ | apply Drawn0.step)⟩
          · rw [if_neg c4] at H
            exact absurd H (by simp)
        · rw [if_neg c3] at H
          have c3b0 : decide (x4_1 < (a0.size : Int)) = false := decide_eq_false c3
          clear c3
          have HC8 := AsZ.mk H
          clear H
          go_upto_block 2 with (fail)
          go_cut [5] (fun v5 wc => ∃ (kq : Nat) (x5_7 : Int), v5 = .int .i64 x5_7 ∧ AsZ (r1Pars.j2 kq a0 x5_7 = some (r1, r2)) ∧ AsZ (kq ≤ k1) ∧ Drawn0 w wc)
          case first =>
            have H := HC8.out
            clear HC8
            have H' := AsZ.mk H
            clear H
            go_wp2
            go_loopg [5] k1 (fun kq v5 w' => ∃ (x5_2 : Int), v5 = .int .i64 x5_2 ∧ AsZ (r1Pars.l1 kq a0 x5_2 = some (r1, r2)) ∧ AsZ (kq ≤ k1) ∧ Drawn0 w w')
            case atStart => exact ⟨(0), (by first | rfl | (simp; done) | (simp [*]; done)), H', ⟨Nat.le_refl _⟩, by repeat (first | exact Drawn0.refl _ | apply Drawn0.step)⟩
            case round =>
              clear H'
              try clear c2
              try clear c2b0
              try clear c2b1
              try clear p2
              try clear c3
              try clear c3b0
              try clear c4
              try clear c4b0
              try clear p5
              try clear q5
              try clear hx5
              try clear p6
              try clear c7
              try clear p2
              try clear p5
              try clear q5
              obtain ⟨x5_2, rfl, HA, HK2, ⟨m2, rfl⟩⟩ := hrel
              cases gk with
              | zero => exact absurd HA.out (by simp [r1Pars.l1])
              | succ k2 =>
                have H := HA.out
                clear HA
                simp only [r1Pars.l1] at H
                by_cases c9 : x5_2 < (wrap64 ((a0.size : Int) - 1))
                · rw [if_pos c9] at H
                  have c9b0 : decide (x5_2 < (wrap64 ((a0.size : Int) - 1))) = true := decide_eq_true c9
                  clear c9
                  (first | rw [c9b0] | (simp only [i64_w, i32_w]; rw [c9b0]) | skip)
                  by_cases c10 : 0 ≤ x5_2
                  · rw [if_pos c10] at H
                    have c10b0 : decide (0 ≤ x5_2) = true := decide_eq_true c10
                    clear c10
                    by_cases c11 : x5_2 < (a0.size : Int)
                    · rw [if_pos c11] at H
                      have c11b0 : decide (x5_2 < (a0.size : Int)) = true := decide_eq_true c11
                      clear c11
                      by_cases c13 : (bt a0 x5_2) = 48
                      · rw [if_pos c13] at H
                        have c13b0 : ((bt a0 x5_2) == 48) = true := beq_iff_eq.mpr c13
                        have c13b1 : ((bt a0 x5_2) != 48) = false := bne_eq_false_iff_eq.mpr c13
                        clear c13
                        have H' := AsZ.mk H
                        clear H
                        have p12 : 0 ≤ (x5_2 : Int) := of_decide_eq_true (by first | (with_reducible assumption) | assumption)
                        have q12 : x5_2 < (a0.size : Int) := of_decide_eq_true (by first | (with_reducible assumption) | assumption)
                        have hx12 := bt_at a0 x5_2
                        replace p12 := eq_true p12
                        replace q12 := eq_true q12
                        go_wp2
                        go_roundg k2
                        case measure => have := HK1.out; have := HK2.out; omega
                        case rel => exact ⟨(wrap64 (x5_2 + 1)), (by first | rfl | (simp; done) | (simp [*]; done)), H', ⟨by have := HK1.out; have := HK2.out; omega⟩, by repeat (first | exact Drawn0.refl _ | apply Drawn0.step)⟩
                      · rw [if_neg c13] at H
                        have c13b0 : ((bt a0 x5_2) == 48) = false := beq_eq_false_iff_ne.mpr c13
                        have c13b1 : ((bt a0 x5_2) != 48) = true := bne_iff_ne.mpr c13
                        have H' := AsZ.mk H
                        clear H
                        have p12 : 0 ≤ (x5_2 : Int) := of_decide_eq_true (by first | (with_reducible assumption) | assumption)
                        have q12 : x5_2 < (a0.size : Int) := of_decide_eq_true (by first | (with_reducible assumption) | assumption)
                        have hx12 := bt_at a0 x5_2
                        replace p12 := eq_true p12
                        replace q12 := eq_true q12
                        go_wp2
                        go_meet
                        case rel => exact ⟨_, (x5_2), (by first | rfl | (simp; done) | (simp [*]; done)), H', ⟨by have := HK1.out; have := HK2.out; first | omega | exact Nat.le_refl _⟩, by repeat (first | exact Drawn0.refl _ | apply Drawn0.step)⟩
                    · rw [if_neg c11] at H
                      exact absurd H (by simp)
                  · rw [if_neg c10] at H
                    exact absurd H (by simp)
                · rw [if_neg c9] at H
                  have c9b0 : decide (x5_2 < (wrap64 ((a0.size : Int) - 1))) = false := decide_eq_false c9
                  clear c9
                  (first | rw [c9b0] | (simp only [i64_w, i32_w]; rw [c9b0]) | skip)
                  have H' := AsZ.mk H
                  clear H
                  go_wp2
                  go_meet
                  case rel => exact ⟨_, (x5_2), (by first | rfl | (simp; done) | (simp [*]; done)), H', ⟨by have := HK1.out; have := HK2.out; first | omega | exact Nat.le_refl _⟩, by repeat (first | exact Drawn0.refl _ | apply Drawn0.step)⟩
          case rest =>
            clear HC8
            try clear c1
            try clear p1
            try clear q1
            try clear hx1
            try clear c2
            try clear c2b0
            try clear c2b1
            try clear p2
            try clear c3
            try clear c3b0
            try clear c4
            try clear c4b0
            try clear p5
            try clear q5
            try clear hx5
            try clear p6
            try clear c7
            try clear c9
            try clear c9b0
            try clear c10
            try clear c10b0
            try clear c11
            try clear c11b0
            try clear p12
            try clear q12
            try clear hx12
            try clear c13
            try clear c13b0
            try clear c13b1
            try clear p12
            try clear p2
            try clear p5
            try clear p6
            try clear q12
            try clear q5
            obtain ⟨kq, x5_7, rfl, HA, HJ7, ⟨mc7, rfl⟩⟩ := hcut
            cases kq with
            | zero => exact absurd HA.out (by simp [r1Pars.j2])
            | succ kj7 =>
              have H := HA.out
              clear HA
              simp only [r1Pars.j2] at H
              by_cases c14 : 0 ≤ x5_7
              · rw [if_pos c14] at H
                have c14b0 := eq_true c14
                have c14b1 : decide (0 ≤ x5_7) = true := decide_eq_true c14
                clear c14
                by_cases c15 : x5_7 ≤ (a0.size : Int)
                · rw [if_pos c15] at H
                  have c15b0 := eq_true c15
                  have c15b1 : decide (x5_7 ≤ (a0.size : Int)) = true := decide_eq_true c15
                  clear c15
                  have HC16 := AsZ.mk H
                  clear H
                  go_upto_region 12 with (fail)
                  go_cut [50] (fun v50 wc => ∃ (kq : Nat) (x50_15 : Bool), v50 = .bool x50_15 ∧ AsZ (r1Pars.j3 kq (a0.extract (x5_7 : Int).toNat a0.size) x50_15 = some (r1, r2)) ∧ AsZ (kq ≤ kj7) ∧ Drawn0 w wc)
                  case first =>
                    have H := HC16.out
                    clear HC16
                    by_cases c17 : ((a0.extract (x5_7 : Int).toNat a0.size).size : Int) > 19
                    · rw [if_pos c17] at H
                      have c17b0 : decide (19 < ((a0.extract (x5_7 : Int).toNat a0.size).size : Int)) = true := decide_eq_true c17
                      have c17b1 : decide (19 < (a0.extract (x5_7 : Int).toNat a0.size).size) = true := decide_eq_true (by omega)
                      (try (have c17b2 : decide (19 < ((a0.size - (x5_7 : Int).toNat : Nat) : Int)) = true := by have h_ : decide (19 < ((a0.extract (x5_7 : Int).toNat a0.size).size : Int)) = true := decide_eq_true c17; first | (simpa using h_) | (simp at h_ ⊢; omega)))
                      (try (have c17b3 : 19 < ((a0.size - (x5_7 : Int).toNat : Nat) : Int) := by have h_ : decide (19 < ((a0.extract (x5_7 : Int).toNat a0.size).size : Int)) = true := decide_eq_true c17; first | (simpa using h_) | (simp at h_ ⊢; omega)))
                      (try (have c17b4 : decide (19 < (a0.size - (x5_7 : Int).toNat : Nat)) = true := by have h_ : decide (19 < (a0.extract (x5_7 : Int).toNat a0.size).size) = true := decide_eq_true (by omega); first | (simpa using h_) | (simp at h_ ⊢; omega)))
                      (try (have c17b5 : 19 < (a0.size - (x5_7 : Int).toNat : Nat) := by have h_ : decide (19 < (a0.extract (x5_7 : Int).toNat a0.size).size) = true := decide_eq_true (by omega); first | (simpa using h_) | (simp at h_ ⊢; omega)))
                      clear c17
                      (first | rw [c17b0] | (simp only [i64_w, i32_w]; rw [c17b0]) | skip)
                      have H' := AsZ.mk H
                      clear H
                      go_wp2
                      go_meet
                      case rel => exact ⟨_, (true), (by first | rfl | (simp; done) | (simp [*]; done)), H', ⟨by have := HK1.out; have := HJ7.out; first | omega | exact Nat.le_refl _⟩, by repeat (first | exact Drawn0.refl _ | apply Drawn0.step)⟩
                    · rw [if_neg c17] at H
                      have c17b0 : decide (19 < ((a0.extract (x5_7 : Int).toNat a0.size).size : Int)) = false := decide_eq_false c17
                      have c17b1 : decide (19 < (a0.extract (x5_7 : Int).toNat a0.size).size) = false := decide_eq_false (by omega)
                      (try (have c17b2 : decide (19 < ((a0.size - (x5_7 : Int).toNat : Nat) : Int)) = false := by have h_ : decide (19 < ((a0.extract (x5_7 : Int).toNat a0.size).size : Int)) = false := decide_eq_false c17; first | (simpa using h_) | (simp at h_ ⊢; omega)))
                      (try (have c17b3 : ¬ (19 < ((a0.size - (x5_7 : Int).toNat : Nat) : Int)) := by have h_ : decide (19 < ((a0.extract (x5_7 : Int).toNat a0.size).size : Int)) = false := decide_eq_false c17; first | (simpa using h_) | (simp at h_ ⊢; omega)))
                      (try (have c17b4 : decide (19 < (a0.size - (x5_7 : Int).toNat : Nat)) = false := by have h_ : decide (19 < (a0.extract (x5_7 : Int).toNat a0.size).size) = false := decide_eq_false (by omega); first | (simpa using h_) | (simp at h_ ⊢; omega)))
                      (try (have c17b5 : ¬ (19 < (a0.size - (x5_7 : Int).toNat : Nat)) := by have h_ : decide (19 < (a0.extract (x5_7 : Int).toNat a0.size).size) = false := decide_eq_false (by omega); first | (simpa using h_) | (simp at h_ ⊢; omega)))
                      clear c17
                      (first | rw [c17b0] | (simp only [i64_w, i32_w]; rw [c17b0]) | skip)
                      by_cases c18 : ((a0.extract (x5_7 : Int).toNat a0.size).size : Int) = 19
                      · rw [if_pos c18] at H
                        have c18b0 : (((a0.extract (x5_7 : Int).toNat a0.size).size : Int) == 19) = true := beq_iff_eq.mpr c18
                        have c18b1 : (((a0.extract (x5_7 : Int).toNat a0.size).size : Int) != 19) = false := bne_eq_false_iff_eq.mpr c18
                        (try (have c18b2 : (((a0.size - (x5_7 : Int).toNat : Nat) : Int) == 19) = true := by have h_ : (((a0.extract (x5_7 : Int).toNat a0.size).size : Int) == 19) = true := beq_iff_eq.mpr c18; first | (simpa using h_) | (simp at h_ ⊢; omega)))
                        (try (have c18b3 : (((a0.size - (x5_7 : Int).toNat : Nat) : Int) != 19) = false := by have h_ : (((a0.extract (x5_7 : Int).toNat a0.size).size : Int) != 19) = false := bne_eq_false_iff_eq.mpr c18; first | (simpa using h_) | (simp at h_ ⊢; omega)))
                        clear c18
                        have H' := AsZ.mk H
                        clear H
                        go_wp2
                        go_meet
                        case rel => exact ⟨_, (!(Op.bytesLess ((a0.extract (x5_7 : Int).toNat a0.size).toList) ([52, 54, 49, 49, 54, 56, 54, 48, 49, 56, 52, 50, 55, 51, 56, 55, 57, 48, 51] : List UInt8) || ((a0.extract (x5_7 : Int).toNat a0.size).toList) == ([52, 54, 49, 49, 54, 56, 54, 48, 49, 56, 52, 50, 55, 51, 56, 55, 57, 48, 51] : List UInt8))), (by first | rfl | (simp; done) | (simp [*]; done)), H', ⟨by have := HK1.out; have := HJ7.out; first | omega | exact Nat.le_refl _⟩, by repeat (first | exact Drawn0.refl _ | apply Drawn0.step)⟩
                      · rw [if_neg c18] at H
                        have c18b0 : (((a0.extract (x5_7 : Int).toNat a0.size).size : Int) == 19) = false := beq_eq_false_iff_ne.mpr c18
                        have c18b1 : (((a0.extract (x5_7 : Int).toNat a0.size).size : Int) != 19) = true := bne_iff_ne.mpr c18
                        (try (have c18b2 : (((a0.size - (x5_7 : Int).toNat : Nat) : Int) == 19) = false := by have h_ : (((a0.extract (x5_7 : Int).toNat a0.size).size : Int) == 19) = false := beq_eq_false_iff_ne.mpr c18; first | (simpa using h_) | (simp at h_ ⊢; omega)))
                        (try (have c18b3 : (((a0.size - (x5_7 : Int).toNat : Nat) : Int) != 19) = true := by have h_ : (((a0.extract (x5_7 : Int).toNat a0.size).size : Int) != 19) = true := bne_iff_ne.mpr c18; first | (simpa using h_) | (simp at h_ ⊢; omega)))
                        have H' := AsZ.mk H
                        clear H
                        go_wp2
                        go_meet
                        case rel => exact ⟨_, (false), (by first | rfl | (simp; done) | (simp [*]; done)), H', ⟨by have := HK1.out; have := HJ7.out; first | omega | exact Nat.le_refl _⟩, by repeat (first | exact Drawn0.refl _ | apply Drawn0.step)⟩
                  case rest =>
                    clear HC16
                    try clear c1
                    try clear p1
                    try clear q1
                    try clear hx1
                    try clear c2
                    try clear c2b0
                    try clear c2b1
                    try clear p2
                    try clear c3
                    try clear c3b0
                    try clear c4
                    try clear c4b0
                    try clear p5
                    try clear q5
                    try clear hx5
                    try clear p6
                    try clear c7
                    try clear c9
                    try clear c9b0
                    try clear c10
                    try clear c10b0
                    try clear c11
                    try clear c11b0
                    try clear p12
                    try clear q12
                    try clear hx12
                    try clear c13
                    try clear c13b0
                    try clear c13b1
                    try clear c14
                    try clear c14b0
                    try clear c14b1
                    try clear c15
                    try clear c15b0
                    try clear c15b1
                    try clear c17
                    try clear c17b0
                    try clear c17b1
                    try clear c17b2
                    try clear c18
                    try clear c18b0
                    try clear c18b1
                    try clear c18b2
                    try clear p1
                    try clear p12
                    try clear p2
                    try clear p5
                    try clear p6
                    try clear q1
                    try clear q12
                    try clear q5
                    obtain ⟨kq, x50_15, rfl, HA, HJ15, ⟨mc15, rfl⟩⟩ := hcut
                    cases kq with
                    | zero => exact absurd HA.out (by simp [r1Pars.j3])
                    | succ kj15 =>
                      have H := HA.out
                      clear HA
                      simp only [r1Pars.j3] at H
                      by_cases c19 : x50_15 = true
                      · subst c19
                        have H1 : (some (0, 9)) = some (r1, r2) := by rw [if_pos rfl] at H; exact H
                        clear H
                        have H := H1
                        clear H1
                        simp only [Option.some.injEq, Prod.mk.injEq] at H
                        obtain ⟨rfl, rfl⟩ := H
                        go_wp2
                        go_ret2
                        exact ⟨by first | rfl | (simp; done) | (simp [*]; done) | exact nEm _ | exact eEm _, by repeat (first | exact Drawn0.refl _ | apply Drawn0.step)⟩
                      · replace c19 := Bool.eq_false_iff.mpr c19
                        subst c19
                        have H1 : (r1Pars.l2 kj15 (a0.extract (x5_7 : Int).toNat a0.size) 0 0) = some (r1, r2) := by rw [if_neg (show ¬ (false = true) by decide)] at H; exact H
                        clear H
                        have H := H1
                        clear H1
                        have H' := AsZ.mk H
                        clear H
                        go_wp2
                        go_loopg [7, 8] kj15 (fun kq v7 v8 w' => ∃ (x7_4 : Int) (x8_4 : Int), v7 = .int .i64 x7_4 ∧ v8 = .int .i64 x8_4 ∧ AsZ (r1Pars.l2 kq (a0.extract (x5_7 : Int).toNat a0.size) x7_4 x8_4 = some (r1, r2)) ∧ AsZ (kq ≤ kj15) ∧ Drawn0 w w')
                        case atStart => exact ⟨(0), (0), (by first | rfl | (simp; done) | (simp [*]; done)), (by first | rfl | (simp; done) | (simp [*]; done)), H', ⟨Nat.le_refl _⟩, by repeat (first | exact Drawn0.refl _ | apply Drawn0.step)⟩
                        case round =>
                          clear H'
                          try clear c1
                          try clear p1
                          try clear q1
                          try clear hx1
                          try clear c2
                          try clear c2b0
                          try clear c2b1
                          try clear p2
                          try clear c3
                          try clear c3b0
                          try clear c4
                          try clear c4b0
                          try clear p5
                          try clear q5
                          try clear hx5
                          try clear p6
                          try clear c7
                          try clear c9
                          try clear c9b0
                          try clear c10
                          try clear c10b0
                          try clear c11
                          try clear c11b0
                          try clear p12
                          try clear q12
                          try clear hx12
                          try clear c13
                          try clear c13b0
                          try clear c13b1
                          try clear c14
                          try clear c14b0
                          try clear c14b1
                          try clear c15
                          try clear c15b0
                          try clear c15b1
                          try clear c17
                          try clear c17b0
                          try clear c17b1
                          try clear c17b2
                          try clear c18
                          try clear c18b0
                          try clear c18b1
                          try clear c18b2
                          try clear c19
                          try clear p1
                          try clear p12
                          try clear p2
                          try clear p5
                          try clear p6
                          try clear q1
                          try clear q12
                          try clear q5
                          obtain ⟨x7_4, x8_4, rfl, rfl, HA, HK4, ⟨m4, rfl⟩⟩ := hrel
                          cases gk with
                          | zero => exact absurd HA.out (by simp [r1Pars.l2])
                          | succ k4 =>
                            have H := HA.out
                            clear HA
                            simp only [r1Pars.l2] at H
                            by_cases c20 : x8_4 < ((a0.extract (x5_7 : Int).toNat a0.size).size : Int)
                            · rw [if_pos c20] at H
                              have c20b0 : decide (x8_4 < ((a0.extract (x5_7 : Int).toNat a0.size).size : Int)) = true := decide_eq_true c20
                              (try (have c20b1 : decide (x8_4 < ((a0.size - (x5_7 : Int).toNat : Nat) : Int)) = true := by have h_ : decide (x8_4 < ((a0.extract (x5_7 : Int).toNat a0.size).size : Int)) = true := decide_eq_true c20; first | (simpa using h_) | (simp at h_ ⊢; omega)))
                              (try (have c20b2 : x8_4 < ((a0.size - (x5_7 : Int).toNat : Nat) : Int) := by have h_ : decide (x8_4 < ((a0.extract (x5_7 : Int).toNat a0.size).size : Int)) = true := decide_eq_true c20; first | (simpa using h_) | (simp at h_ ⊢; omega)))
                              clear c20
                              by_cases c21 : 0 ≤ x8_4
                              · rw [if_pos c21] at H
                                have c21b0 : decide (0 ≤ x8_4) = true := decide_eq_true c21
                                clear c21
                                have H' := AsZ.mk H
                                clear H
                                have p22 : 0 ≤ (x8_4 : Int) := of_decide_eq_true (by first | (with_reducible assumption) | assumption)
                                have q22 : x8_4 < ((a0.extract (x5_7 : Int).toNat a0.size).size : Int) := of_decide_eq_true (by first | (with_reducible assumption) | assumption)
                                have hx22 := bt_at (a0.extract (x5_7 : Int).toNat a0.size) x8_4
                                replace p22 := eq_true p22
                                replace q22 := eq_true q22
                                go_wp2
                                go_roundg k4
                                case measure => have := HK1.out; have := HJ7.out; have := HJ15.out; have := HK4.out; omega
                                case rel => exact ⟨(wrap64 ((wrap64 ((wrap64 (10 * x7_4)) + (wrap64 (bt (a0.extract (x5_7 : Int).toNat a0.size) x8_4)))) - 48)), (wrap64 (x8_4 + 1)), (by first | rfl | (simp; done) | (simp [*]; done)), (by first | rfl | (simp; done) | (simp [*]; done)), H', ⟨by have := HK1.out; have := HJ7.out; have := HJ15.out; have := HK4.out; omega⟩, by repeat (first | exact Drawn0.refl _ | apply Drawn0.step)⟩
                              · rw [if_neg c21] at H
                                exact absurd H (by simp)
                            · rw [if_neg c20] at H
                              have c20b0 : decide (x8_4 < ((a0.extract (x5_7 : Int).toNat a0.size).size : Int)) = false := decide_eq_false c20
                              (try (have c20b1 : decide (x8_4 < ((a0.size - (x5_7 : Int).toNat : Nat) : Int)) = false := by have h_ : decide (x8_4 < ((a0.extract (x5_7 : Int).toNat a0.size).size : Int)) = false := decide_eq_false c20; first | (simpa using h_) | (simp at h_ ⊢; omega)))
                              (try (have c20b2 : ¬ (x8_4 < ((a0.size - (x5_7 : Int).toNat : Nat) : Int)) := by have h_ : decide (x8_4 < ((a0.extract (x5_7 : Int).toNat a0.size).size : Int)) = false := decide_eq_false c20; first | (simpa using h_) | (simp at h_ ⊢; omega)))
                              clear c20
                              simp only [Option.some.injEq, Prod.mk.injEq] at H
                              obtain ⟨rfl, rfl⟩ := H
                              go_wp2
                              go_ret2
                              exact ⟨by first | rfl | (simp; done) | (simp [*]; done) | exact nEm _ | exact eEm _, by repeat (first | exact Drawn0.refl _ | apply Drawn0.step)⟩
                · rw [if_neg c15] at H
                  exact absurd H (by simp)
              · rw [if_neg c14] at H
                exact absurd H (by simp)
end Go.Proofs.Ytpphnjmppkbpbaa.PAll
