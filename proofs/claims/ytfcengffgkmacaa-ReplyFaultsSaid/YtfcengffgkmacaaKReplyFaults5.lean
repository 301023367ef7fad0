/- What the law ReplyFaults leans on (part 6 of 7): Go functions as plain functions, that the code comes to them, and what these answer. -/
import Derived.Test.YtfcengffgkmacaaKReplyFaults1
import Derived.Test.YtfcengffgkmacaaKReplyFaults3
import Derived.Test.YtfcengffgkmacaaKReplyFaults2
import Derived.Test.YtfcengffgkmacaaKReplyFaults4
namespace Go.Proofs.Ytfcengffgkmacaa.PAll
open Go.RowKit Go.Proofs.Ytfcengffgkmacaa.Xw Go.Proofs.YtfcengffgkmacaaW.PrintWords Go.Proofs.YtfcengffgkmacaaW.PrintLast Go.Proofs.YtfcengffgkmacaaW.PrintMore
attribute [local go_sem] max2_int min2_int max_two min_two max_three min_three max_four min_four   -- for this text's walks alone
set_option linter.unusedVariables false
set_option linter.unusedSimpArgs false
def reply_Faulty.f (k : Nat) (a0 : Int) (a1_0 : Int) (a1_1 : ByteArray) (a1_2 : Int) (a1_3 : ByteArray) (l1_4 : List Int) : Option (Int × ByteArray × Int × ByteArray × List Int) := (bytes_Clone.f l1_4).bind fun t375 => (if a0 = 5 then ((reply_Gone.f).bind fun bt378 => (some (bt378.1, bt378.2.1, bt378.2.2.1, bt378.2.2.2.1, bt378.2.2.2.2))) else (if a0 = 1 then ((reply_Down.f).bind fun bt389 => (some (bt389.1, bt389.2.1, bt389.2.2.1, bt389.2.2.2.1, bt389.2.2.2.2))) else (if a0 = 4 then (if a1_1.size + 1 ≤ 9223372036854775807 then (some (a1_0, a1_1 ++ (⟨#[34]⟩ : ByteArray), a1_2, a1_3, t375)) else (none)) else (if a0 = 3 then ((reply_shifted.f k a1_3).bind fun t385 => (some (a1_0, a1_1, a1_2, t385, t375))) else (if a0 = 2 then (if (t375.length : Int) > 0 then (if 0 ≤ (wrap64 ((t375.length : Int) - 1)) then (if (wrap64 ((t375.length : Int) - 1)) ≤ (t375.length : Int) then (some (a1_0, a1_1, a1_2, a1_3, (t375.take ((wrap64 ((t375.length : Int) - 1)) : Int).toNat))) else (none)) else (none)) else (some (a1_0, a1_1, a1_2, a1_3, t375))) else (some (a1_0, a1_1, a1_2, a1_3, t375)))))))
theorem reply_Faulty.mono : ∀ a0 a1 a2 a3 a4 a5 k, LeO (reply_Faulty.f k a0 a1 a2 a3 a4 a5) (reply_Faulty.f (k + 1) a0 a1 a2 a3 a4 a5) := by
  intro a0 a1 a2 a3 a4 a5 k
  unfold reply_Faulty.f
  repeat' first
      | (with_reducible exact reply_shifted.mono _ _)
      | (with_reducible exact LeO.refl _)
      | (with_reducible exact LeO.none _)
      | (with_reducible refine LeO.ite ?_ ?_)
      | (with_reducible refine LeO.bind ?_ (fun _ => ?_))
      | exact reply_shifted.mono _ _
      | exact LeO.none _
      | refine LeO.ite ?_ ?_
      | refine LeO.bind ?_ (fun _ => ?_)
set_option maxHeartbeats 8000000 in
set_option maxRecDepth 100000 in
theorem reply_Faulty.calls (k : Nat) (a0 : Int) (a1_0 : Int) (a1_1 : ByteArray) (a1_2 : Int) (a1_3 : ByteArray) (A1_4 : Option Addr) (c1_4 : Nat) (l1_4 : List Int) (r1 : Int) (r2 : ByteArray) (r3 : Int) (r4 : ByteArray) (r5 : List Int) (w : World) (hr1_4 : Kd.C (Kd.int .u8) w A1_4 l1_4.length l1_4) (hc1_4 : l1_4.length ≤ c1_4) (h : reply_Faulty.f k a0 a1_0 a1_1 a1_2 a1_3 l1_4 = some (r1, r2, r3, r4, r5)) :
    Calls Try.prog 44 #[.int .i64 a0, .agg #[.int .i64 a1_0, .string a1_1, .int .i64 a1_2, .string a1_3, .slice A1_4 l1_4.length c1_4]] w fun e w' => ∃ v4_ : Value, e = .returned (.agg #[.int .i64 r1, .string r2, .int .i64 r3, .string r4, v4_]) ∧ Kd.R (Kd.int .u8) 5 w' w.heap.size (fun _ => True) v4_ r5 ∧ Below w.heap.size w w' := by
  have hu64 := Try.underlying64
  have HR1_4 := AsZ.mk hr1_4
  have HC1_4 := AsZ.mk hc1_4
  clear hr1_4 hc1_4
  have HB := AsZ.mk (Below.refl w.heap.size w)
  have H : ((bytes_Clone.f l1_4).bind fun t375 => (if a0 = 5 then ((reply_Gone.f).bind fun bt378 => (some (bt378.1, bt378.2.1, bt378.2.2.1, bt378.2.2.2.1, bt378.2.2.2.2))) else (if a0 = 1 then ((reply_Down.f).bind fun bt389 => (some (bt389.1, bt389.2.1, bt389.2.2.1, bt389.2.2.2.1, bt389.2.2.2.2))) else (if a0 = 4 then (if a1_1.size + 1 ≤ 9223372036854775807 then (some (a1_0, a1_1 ++ (⟨#[34]⟩ : ByteArray), a1_2, a1_3, t375)) else (none)) else (if a0 = 3 then ((reply_shifted.f k a1_3).bind fun t385 => (some (a1_0, a1_1, a1_2, t385, t375))) else (if a0 = 2 then (if (t375.length : Int) > 0 then (if 0 ≤ (wrap64 ((t375.length : Int) - 1)) then (if (wrap64 ((t375.length : Int) - 1)) ≤ (t375.length : Int) then (some (a1_0, a1_1, a1_2, a1_3, (t375.take ((wrap64 ((t375.length : Int) - 1)) : Int).toNat))) else (none)) else (none)) else (some (a1_0, a1_1, a1_2, a1_3, t375))) else (some (a1_0, a1_1, a1_2, a1_3, t375)))))))) = some (r1, r2, r3, r4, r5) := h
  clear h
  replace H := Option.bind_eq_some_iff.mp H
  obtain ⟨t375, A30, H⟩ := H
  replace H : (if a0 = 5 then ((reply_Gone.f).bind fun bt378 => (some (bt378.1, bt378.2.1, bt378.2.2.1, bt378.2.2.2.1, bt378.2.2.2.2))) else (if a0 = 1 then ((reply_Down.f).bind fun bt389 => (some (bt389.1, bt389.2.1, bt389.2.2.1, bt389.2.2.2.1, bt389.2.2.2.2))) else (if a0 = 4 then (if a1_1.size + 1 ≤ 9223372036854775807 then (some (a1_0, a1_1 ++ (⟨#[34]⟩ : ByteArray), a1_2, a1_3, t375)) else (none)) else (if a0 = 3 then ((reply_shifted.f k a1_3).bind fun t385 => (some (a1_0, a1_1, a1_2, t385, t375))) else (if a0 = 2 then (if (t375.length : Int) > 0 then (if 0 ≤ (wrap64 ((t375.length : Int) - 1)) then (if (wrap64 ((t375.length : Int) - 1)) ≤ (t375.length : Int) then (some (a1_0, a1_1, a1_2, a1_3, (t375.take ((wrap64 ((t375.length : Int) - 1)) : Int).toNat))) else (none)) else (none)) else (some (a1_0, a1_1, a1_2, a1_3, t375))) else (some (a1_0, a1_1, a1_2, a1_3, t375))))))) = some (r1, r2, r3, r4, r5) := H
  have A3 := AsZ.mk A30
  clear A30
  by_cases c4 : a0 = 5
  · rw [if_pos c4] at H
    have c4b0 : (a0 == 5) = true := beq_iff_eq.mpr c4
    have c4b1 : (a0 != 5) = false := bne_eq_false_iff_eq.mpr c4
    clear c4
    replace H := Option.bind_eq_some_iff.mp H
    obtain ⟨⟨t378, t379, t380, t381, t382⟩, A50, H⟩ := H
    replace H : (some (t378, t379, t380, t381, t382)) = some (r1, r2, r3, r4, r5) := H
    have A5 := AsZ.mk A50
    clear A50
    simp only [Option.some.injEq, Prod.mk.injEq] at H
    obtain ⟨rfl, rfl, rfl, rfl, rfl⟩ := H
    go_enter Try.func44, Try.ntmps44
    go_wp2_with (first | ((with_reducible refine gDs (N := 3) rfl ?_); refine bEv ?hg (N := 3) ?hd (cs := #[.int .i64 a1_0, .string a1_1, .int .i64 a1_2, .string a1_3, .slice A1_4 l1_4.length c1_4]) (t := 64) ?hr ?_; (case hd => rfl); (case hg => rfl); (case hr => first | (go_simp; done) | (go_simp; rfl)); intro gb373 hg w6 hbox hb; have n0_ := AsZ.mk (tBl (by repeat (first | (with_reducible first | exact HB.out | apply aBl | apply pBd | apply dBl) | exact HB.out)) hb); have n1_ := AsZ.mk (hbox); have n2_ := AsZ.mk ((by rw [hg]; exact (zBl (by repeat (first | (with_reducible first | exact HB.out | apply aBl | apply pBd | apply dBl) | exact HB.out))) : w.heap.size ≤ gb373)); have n3_ := AsZ.mk ((by rw [hg]; exact (zBl (by repeat (first | (with_reducible first | exact HB.out | apply aBl | apply pBd | apply dBl) | exact HB.out))) : w.heap.size ≤ gb373)); clear HB; have HB := n0_; have BK373 := n1_; have GW373 := n2_; have GE373 := n3_; clear n0_ n1_ n2_ n3_; clear hb hbox hg) | ((with_reducible refine gDs (N := 4) rfl ?_); refine bEv ?hg (N := 4) ?hd (cs := #[.int .i64 0, .string (⟨#[]⟩ : ByteArray), .int .i64 0, .string (⟨#[]⟩ : ByteArray), .slice none 0 0]) (t := 64) ?hr ?_; (case hd => rfl); (case hg => rfl); (case hr => first | (go_simp; done) | (go_simp; rfl)); intro gb374 hg w7 hbox hb; have n0_ := AsZ.mk (bBl (g := gb373) (o := .cells #[.int .i64 a1_0, .string a1_1, .int .i64 a1_2, .string a1_3, .slice A1_4 l1_4.length c1_4] 64 (0, 0)) (by (with_reducible repeat (first | refine bDn ?_ _ | refine bDr ?_ | refine bAl ?_ _)); exact BK373.out) hb); have n1_ := AsZ.mk (tBl (by repeat (first | (with_reducible first | exact HB.out | apply aBl | apply pBd | apply dBl | refine sBl ?_ GE373.out) | exact HB.out)) hb); have n2_ := AsZ.mk (hbox); have n3_ := AsZ.mk ((by rw [hg]; exact (zBl (by repeat (first | (with_reducible first | exact HB.out | apply aBl | apply pBd | apply dBl | refine sBl ?_ GE373.out) | exact HB.out))) : w.heap.size ≤ gb374)); have n4_ := AsZ.mk ((by rw [hg]; exact (zBl (by repeat (first | (with_reducible first | exact HB.out | apply aBl | apply pBd | apply dBl | refine sBl ?_ GE373.out) | exact HB.out))) : w.heap.size ≤ gb374)); have n5_ := AsZ.mk ((by rw [hg]; exact Nat.ne_of_lt (bLt (g := gb373) (o := .cells #[.int .i64 a1_0, .string a1_1, .int .i64 a1_2, .string a1_3, .slice A1_4 l1_4.length c1_4] 64 (0, 0)) (by (with_reducible repeat (first | refine bDn ?_ _ | refine bDr ?_ | refine bAl ?_ _)); exact BK373.out)) : gb373 ≠ gb374)); have n6_ := AsZ.mk ((by rw [hg]; exact Nat.ne_of_gt (bLt (g := gb373) (o := .cells #[.int .i64 a1_0, .string a1_1, .int .i64 a1_2, .string a1_3, .slice A1_4 l1_4.length c1_4] 64 (0, 0)) (by (with_reducible repeat (first | refine bDn ?_ _ | refine bDr ?_ | refine bAl ?_ _)); exact BK373.out)) : gb374 ≠ gb373)); clear BK373; clear HB; have BK373 := n0_; have HB := n1_; have BK374 := n2_; have GW374 := n3_; have GE374 := n4_; have NB373_374 := n5_; have NB374_373 := n6_; clear n0_ n1_ n2_ n3_ n4_ n5_ n6_; clear hb hbox hg; have hnb8 := NB373_374.out; have hnc8 := NB374_373.out; have hcz9_0 : w7.cell? ⟨gb373, 0, none⟩ = some (.int .i64 a1_0) := (bCe BK373.out 0).trans rfl; have hcz9_1 : w7.cell? ⟨gb373, 1, none⟩ = some (.string a1_1) := (bCe BK373.out 1).trans rfl; have hcz9_2 : w7.cell? ⟨gb373, 2, none⟩ = some (.int .i64 a1_2) := (bCe BK373.out 2).trans rfl; have hcz9_3 : w7.cell? ⟨gb373, 3, none⟩ = some (.string a1_3) := (bCe BK373.out 3).trans rfl; have hcz9_4 : w7.cell? ⟨gb373, 4, none⟩ = some (.slice A1_4 l1_4.length c1_4) := (bCe BK373.out 4).trans rfl; have hfz9_0 := bFz BK373.out 0; have hfz9_1 := bFz BK373.out 1; have hfz9_2 := bFz BK373.out 2; have hfz9_3 := bFz BK373.out 3; have hfz9_4 := bFz BK373.out 4) | ((with_reducible refine gCa (f := 61) rfl ?_); refine gLl (some 7) rfl rfl Try.func61 (by kernel_rfl) rfl #[.slice A1_4 l1_4.length c1_4] rfl (by (try simp only [List.map_toArray, List.map_cons, List.map_nil]); first | done | rfl | (simp only [List.length_drop, List.length_take]; rfl)) ?_; (with_reducible refine (bytes_Clone.calls _ _ l1_4 t375 _ ?side1 ?side2 A3.out).mono ?_); (case side1 => repeat (first | exact (Kd.C_below HR1_4.out HB.out) | (with_reducible refine Kd.C_alloc ?_ _) | (with_reducible refine Kd.C_drewN ?_ _) | (with_reducible refine Kd.C_drew ?_))); (case side2 => exact HC1_4.out); rintro e w10 ⟨v376, rfl, ho0, hb⟩; refine ⟨_, rfl, ?_⟩; have n0_ := AsZ.mk (Kd.R_lower ho0 (zBl (by repeat (first | (with_reducible first | exact HB.out | apply aBl | apply pBd | apply dBl | refine sBl ?_ GE373.out | refine sBl ?_ GE374.out) | exact HB.out)))); have n1_ := AsZ.mk (bBl (g := gb373) (o := .cells #[.int .i64 a1_0, .string a1_1, .int .i64 a1_2, .string a1_3, .slice A1_4 l1_4.length c1_4] 64 (0, 0)) (by (with_reducible repeat (first | refine bDn ?_ _ | refine bDr ?_ | refine bAl ?_ _)); exact BK373.out) hb); have n2_ := AsZ.mk (bBl (g := gb374) (o := .cells #[.int .i64 0, .string (⟨#[]⟩ : ByteArray), .int .i64 0, .string (⟨#[]⟩ : ByteArray), .slice none 0 0] 64 (0, 0)) (by (with_reducible repeat (first | refine bDn ?_ _ | refine bDr ?_ | refine bAl ?_ _)); exact BK374.out) hb); have n3_ := AsZ.mk (tBl (by repeat (first | (with_reducible first | exact HB.out | apply aBl | apply pBd | apply dBl | refine sBl ?_ GE373.out | refine sBl ?_ GE374.out) | exact HB.out)) hb); clear BK373; clear BK374; clear HB; have HO377 := n0_; have BK373 := n1_; have BK374 := n2_; have HB := n3_; clear n0_ n1_ n2_ n3_; (try clear hb); (try clear hb2); (try clear hk); (try clear hi); (try clear ho0); obtain ⟨Ao11, co11, eo11⟩ := Kd.R_slice HO377.out; subst eo11; have hcz12_0 : w10.cell? ⟨gb373, 0, none⟩ = some (.int .i64 a1_0) := (bCe BK373.out 0).trans rfl; have hcz12_1 : w10.cell? ⟨gb373, 1, none⟩ = some (.string a1_1) := (bCe BK373.out 1).trans rfl; have hcz12_2 : w10.cell? ⟨gb373, 2, none⟩ = some (.int .i64 a1_2) := (bCe BK373.out 2).trans rfl; have hcz12_3 : w10.cell? ⟨gb373, 3, none⟩ = some (.string a1_3) := (bCe BK373.out 3).trans rfl; have hcz12_4 : w10.cell? ⟨gb373, 4, none⟩ = some (.slice A1_4 l1_4.length c1_4) := (bCe BK373.out 4).trans rfl; have hfz12_0 := bFz BK373.out 0; have hfz12_1 := bFz BK373.out 1; have hfz12_2 := bFz BK373.out 2; have hfz12_3 := bFz BK373.out 3; have hfz12_4 := bFz BK373.out 4) | ((with_reducible refine gCa (f := 41) rfl ?_); refine gLl (some 20) rfl rfl Try.func41 (by kernel_rfl) rfl #[] rfl (by (try simp only [List.map_toArray, List.map_cons, List.map_nil]); first | done | rfl | (simp only [List.length_drop, List.length_take]; rfl)) ?_; (with_reducible refine (reply_Gone.calls  t378 t379 t380 t381 t382 _ A5.out).mono ?_); rintro e w13 ⟨v383, rfl, ho0, hb⟩; refine ⟨_, rfl, ?_⟩; have n0_ := AsZ.mk (Kd.R_elder' (by (with_reducible repeat (first | apply Kd.R_alloc | apply Kd.R_drewN | apply Kd.R_drew)); exact (Kd.R_mono (Kd.R_far (p := ⟨gb373, 4, none⟩) (Kd.R_types HO377.out BK373.out (by decide)) (fun _ hk => hk.2) (.slice Ao11 t375.length co11)) (fun _ h_ => h_.1))) (Kd.R_base ho0) hb); have n1_ := AsZ.mk (Kd.R_lower (Kd.R_new' ho0 (Kd.R_lt (by (with_reducible repeat (first | apply Kd.R_alloc | apply Kd.R_drewN | apply Kd.R_drew)); exact (Kd.R_mono (Kd.R_far (p := ⟨gb373, 4, none⟩) (Kd.R_types HO377.out BK373.out (by decide)) (fun _ hk => hk.2) (.slice Ao11 t375.length co11)) (fun _ h_ => h_.1))))) (zBl (by repeat (first | (with_reducible first | exact HB.out | apply aBl | apply pBd | apply dBl | refine sBl ?_ GE373.out | refine sBl ?_ GE374.out) | exact HB.out)))); have n2_ := AsZ.mk (bBl (g := gb373) (o := .cells #[.int .i64 a1_0, .string a1_1, .int .i64 a1_2, .string a1_3, .slice Ao11 t375.length co11] 64 (0, 0)) (by (with_reducible repeat (first | refine bDn ?_ _ | refine bDr ?_ | refine bAl ?_ _)); refine bPu (cs := #[.int .i64 a1_0, .string a1_1, .int .i64 a1_2, .string a1_3, .slice A1_4 l1_4.length c1_4]) ?_ 4 _ rfl; (with_reducible repeat (first | refine bDn ?_ _ | refine bDr ?_ | refine bAl ?_ _)); exact BK373.out) hb); have n3_ := AsZ.mk (bBl (g := gb374) (o := .cells #[.int .i64 0, .string (⟨#[]⟩ : ByteArray), .int .i64 0, .string (⟨#[]⟩ : ByteArray), .slice none 0 0] 64 (0, 0)) (by (with_reducible repeat (first | refine bDn ?_ _ | refine bDr ?_ | refine bAl ?_ _)); refine bFr ?_ NB374_373.out _; (with_reducible repeat (first | refine bDn ?_ _ | refine bDr ?_ | refine bAl ?_ _)); exact BK374.out) hb); have n4_ := AsZ.mk (tBl (by repeat (first | (with_reducible first | exact HB.out | apply aBl | apply pBd | apply dBl | refine sBl ?_ GE373.out | refine sBl ?_ GE374.out) | exact HB.out)) hb); clear HO377; clear BK373; clear BK374; clear HB; have HO377 := n0_; have HO384 := n1_; have BK373 := n2_; have BK374 := n3_; have HB := n4_; clear n0_ n1_ n2_ n3_ n4_; (try clear hb); (try clear hb2); (try clear hk); (try clear hi); (try clear ho0); have hcz14_0 : w13.cell? ⟨gb374, 0, none⟩ = some (.int .i64 0) := (bCe BK374.out 0).trans rfl; have hcz14_1 : w13.cell? ⟨gb374, 1, none⟩ = some (.string (⟨#[]⟩ : ByteArray)) := (bCe BK374.out 1).trans rfl; have hcz14_2 : w13.cell? ⟨gb374, 2, none⟩ = some (.int .i64 0) := (bCe BK374.out 2).trans rfl; have hcz14_3 : w13.cell? ⟨gb374, 3, none⟩ = some (.string (⟨#[]⟩ : ByteArray)) := (bCe BK374.out 3).trans rfl; have hcz14_4 : w13.cell? ⟨gb374, 4, none⟩ = some (.slice none 0 0) := (bCe BK374.out 4).trans rfl; have hfz14_0 := bFz BK374.out 0; have hfz14_1 := bFz BK374.out 1; have hfz14_2 := bFz BK374.out 2; have hfz14_3 := bFz BK374.out 3; have hfz14_4 := bFz BK374.out 4; obtain ⟨Ao15, co15, eo15⟩ := Kd.R_slice HO384.out; subst eo15))
    refine bodyPost_ret (results_cell_row rfl _ _ gb374 64 #[.int .i64 t378, .string t379, .int .i64 t380, .string t381, .slice Ao15 t382.length co15] (0, 0) _ rfl (by (with_reducible repeat (first | refine bDn ?_ _ | refine bDr ?_ | refine bAl ?_ _)); refine bPu (cs := #[.int .i64 t378, .string t379, .int .i64 t380, .string t381, .slice none 0 0]) ?_ 4 _ rfl; (with_reducible repeat (first | refine bDn ?_ _ | refine bDr ?_ | refine bAl ?_ _)); refine bPu (cs := #[.int .i64 t378, .string t379, .int .i64 t380, .string (⟨#[]⟩ : ByteArray), .slice none 0 0]) ?_ 3 _ rfl; (with_reducible repeat (first | refine bDn ?_ _ | refine bDr ?_ | refine bAl ?_ _)); refine bPu (cs := #[.int .i64 t378, .string t379, .int .i64 0, .string (⟨#[]⟩ : ByteArray), .slice none 0 0]) ?_ 2 _ rfl; (with_reducible repeat (first | refine bDn ?_ _ | refine bDr ?_ | refine bAl ?_ _)); refine bPu (cs := #[.int .i64 t378, .string (⟨#[]⟩ : ByteArray), .int .i64 0, .string (⟨#[]⟩ : ByteArray), .slice none 0 0]) ?_ 1 _ rfl; (with_reducible repeat (first | refine bDn ?_ _ | refine bDr ?_ | refine bAl ?_ _)); refine bPu (cs := #[.int .i64 0, .string (⟨#[]⟩ : ByteArray), .int .i64 0, .string (⟨#[]⟩ : ByteArray), .slice none 0 0]) ?_ 0 _ rfl; (with_reducible repeat (first | refine bDn ?_ _ | refine bDr ?_ | refine bAl ?_ _)); exact BK374.out) Try.underlying64 rfl (by kernel_rfl)) rfl ?_
    exact ⟨_, by first | rfl | (simp [eWn, eWs] <;> rfl) | (simp [*, eWn, eWs] <;> rfl), by (with_reducible repeat (first | apply Kd.R_alloc | apply Kd.R_drewN | apply Kd.R_drew)); exact Kd.R_mono (Kd.R_far (p := ⟨gb374, 4, none⟩) (Kd.R_far (p := ⟨gb374, 3, none⟩) (Kd.R_far (p := ⟨gb374, 2, none⟩) (Kd.R_far (p := ⟨gb374, 1, none⟩) (Kd.R_far (p := ⟨gb374, 0, none⟩) (Kd.R_types HO384.out BK374.out (by decide)) (fun _ hk => hk.2) (.int .i64 t378)) (fun _ hk => hk.2) (.string t379)) (fun _ hk => hk.2) (.int .i64 t380)) (fun _ hk => hk.2) (.string t381)) (fun _ hk => hk.2) (.slice Ao15 t382.length co15)) (fun _ hk => trivial), by repeat (first | (with_reducible first | exact HB.out | apply aBl | apply pBd | apply dBl | refine sBl ?_ GE373.out | refine sBl ?_ GE374.out) | exact HB.out)⟩
  · rw [if_neg c4] at H
    have c4b0 : (a0 == 5) = false := beq_eq_false_iff_ne.mpr c4
    have c4b1 : (a0 != 5) = true := bne_iff_ne.mpr c4
    by_cases c16 : a0 = 1
    · rw [if_pos c16] at H
      have c16b0 : (a0 == 1) = true := beq_iff_eq.mpr c16
      have c16b1 : (a0 != 1) = false := bne_eq_false_iff_eq.mpr c16
      clear c16
      replace H := Option.bind_eq_some_iff.mp H
      obtain ⟨⟨t389, t390, t391, t392, t393⟩, A170, H⟩ := H
      replace H : (some (t389, t390, t391, t392, t393)) = some (r1, r2, r3, r4, r5) := H
      have A17 := AsZ.mk A170
      clear A170
      simp only [Option.some.injEq, Prod.mk.injEq] at H
      obtain ⟨rfl, rfl, rfl, rfl, rfl⟩ := H
      go_enter Try.func44, Try.ntmps44
      go_wp2_with (first | ((with_reducible refine gDs (N := 3) rfl ?_); refine bEv ?hg (N := 3) ?hd (cs := #[.int .i64 a1_0, .string a1_1, .int .i64 a1_2, .string a1_3, .slice A1_4 l1_4.length c1_4]) (t := 64) ?hr ?_; (case hd => rfl); (case hg => rfl); (case hr => first | (go_simp; done) | (go_simp; rfl)); intro gb373 hg w18 hbox hb; have n0_ := AsZ.mk (tBl (by repeat (first | (with_reducible first | exact HB.out | apply aBl | apply pBd | apply dBl) | exact HB.out)) hb); have n1_ := AsZ.mk (hbox); have n2_ := AsZ.mk ((by rw [hg]; exact (zBl (by repeat (first | (with_reducible first | exact HB.out | apply aBl | apply pBd | apply dBl) | exact HB.out))) : w.heap.size ≤ gb373)); have n3_ := AsZ.mk ((by rw [hg]; exact (zBl (by repeat (first | (with_reducible first | exact HB.out | apply aBl | apply pBd | apply dBl) | exact HB.out))) : w.heap.size ≤ gb373)); clear HB; have HB := n0_; have BK373 := n1_; have GW373 := n2_; have GE373 := n3_; clear n0_ n1_ n2_ n3_; clear hb hbox hg) | ((with_reducible refine gDs (N := 4) rfl ?_); refine bEv ?hg (N := 4) ?hd (cs := #[.int .i64 0, .string (⟨#[]⟩ : ByteArray), .int .i64 0, .string (⟨#[]⟩ : ByteArray), .slice none 0 0]) (t := 64) ?hr ?_; (case hd => rfl); (case hg => rfl); (case hr => first | (go_simp; done) | (go_simp; rfl)); intro gb374 hg w19 hbox hb; have n0_ := AsZ.mk (bBl (g := gb373) (o := .cells #[.int .i64 a1_0, .string a1_1, .int .i64 a1_2, .string a1_3, .slice A1_4 l1_4.length c1_4] 64 (0, 0)) (by (with_reducible repeat (first | refine bDn ?_ _ | refine bDr ?_ | refine bAl ?_ _)); exact BK373.out) hb); have n1_ := AsZ.mk (tBl (by repeat (first | (with_reducible first | exact HB.out | apply aBl | apply pBd | apply dBl | refine sBl ?_ GE373.out) | exact HB.out)) hb); have n2_ := AsZ.mk (hbox); have n3_ := AsZ.mk ((by rw [hg]; exact (zBl (by repeat (first | (with_reducible first | exact HB.out | apply aBl | apply pBd | apply dBl | refine sBl ?_ GE373.out) | exact HB.out))) : w.heap.size ≤ gb374)); have n4_ := AsZ.mk ((by rw [hg]; exact (zBl (by repeat (first | (with_reducible first | exact HB.out | apply aBl | apply pBd | apply dBl | refine sBl ?_ GE373.out) | exact HB.out))) : w.heap.size ≤ gb374)); have n5_ := AsZ.mk ((by rw [hg]; exact Nat.ne_of_lt (bLt (g := gb373) (o := .cells #[.int .i64 a1_0, .string a1_1, .int .i64 a1_2, .string a1_3, .slice A1_4 l1_4.length c1_4] 64 (0, 0)) (by (with_reducible repeat (first | refine bDn ?_ _ | refine bDr ?_ | refine bAl ?_ _)); exact BK373.out)) : gb373 ≠ gb374)); have n6_ := AsZ.mk ((by rw [hg]; exact Nat.ne_of_gt (bLt (g := gb373) (o := .cells #[.int .i64 a1_0, .string a1_1, .int .i64 a1_2, .string a1_3, .slice A1_4 l1_4.length c1_4] 64 (0, 0)) (by (with_reducible repeat (first | refine bDn ?_ _ | refine bDr ?_ | refine bAl ?_ _)); exact BK373.out)) : gb374 ≠ gb373)); clear BK373; clear HB; have BK373 := n0_; have HB := n1_; have BK374 := n2_; have GW374 := n3_; have GE374 := n4_; have NB373_374 := n5_; have NB374_373 := n6_; clear n0_ n1_ n2_ n3_ n4_ n5_ n6_; clear hb hbox hg; have hnb20 := NB373_374.out; have hnc20 := NB374_373.out; have hcz21_0 : w19.cell? ⟨gb373, 0, none⟩ = some (.int .i64 a1_0) := (bCe BK373.out 0).trans rfl; have hcz21_1 : w19.cell? ⟨gb373, 1, none⟩ = some (.string a1_1) := (bCe BK373.out 1).trans rfl; have hcz21_2 : w19.cell? ⟨gb373, 2, none⟩ = some (.int .i64 a1_2) := (bCe BK373.out 2).trans rfl; have hcz21_3 : w19.cell? ⟨gb373, 3, none⟩ = some (.string a1_3) := (bCe BK373.out 3).trans rfl; have hcz21_4 : w19.cell? ⟨gb373, 4, none⟩ = some (.slice A1_4 l1_4.length c1_4) := (bCe BK373.out 4).trans rfl; have hfz21_0 := bFz BK373.out 0; have hfz21_1 := bFz BK373.out 1; have hfz21_2 := bFz BK373.out 2; have hfz21_3 := bFz BK373.out 3; have hfz21_4 := bFz BK373.out 4) | ((with_reducible refine gCa (f := 61) rfl ?_); refine gLl (some 7) rfl rfl Try.func61 (by kernel_rfl) rfl #[.slice A1_4 l1_4.length c1_4] rfl (by (try simp only [List.map_toArray, List.map_cons, List.map_nil]); first | done | rfl | (simp only [List.length_drop, List.length_take]; rfl)) ?_; (with_reducible refine (bytes_Clone.calls _ _ l1_4 t375 _ ?side1 ?side2 A3.out).mono ?_); (case side1 => repeat (first | exact (Kd.C_below HR1_4.out HB.out) | (with_reducible refine Kd.C_alloc ?_ _) | (with_reducible refine Kd.C_drewN ?_ _) | (with_reducible refine Kd.C_drew ?_))); (case side2 => exact HC1_4.out); rintro e w22 ⟨v376, rfl, ho0, hb⟩; refine ⟨_, rfl, ?_⟩; have n0_ := AsZ.mk (Kd.R_lower ho0 (zBl (by repeat (first | (with_reducible first | exact HB.out | apply aBl | apply pBd | apply dBl | refine sBl ?_ GE373.out | refine sBl ?_ GE374.out) | exact HB.out)))); have n1_ := AsZ.mk (bBl (g := gb373) (o := .cells #[.int .i64 a1_0, .string a1_1, .int .i64 a1_2, .string a1_3, .slice A1_4 l1_4.length c1_4] 64 (0, 0)) (by (with_reducible repeat (first | refine bDn ?_ _ | refine bDr ?_ | refine bAl ?_ _)); exact BK373.out) hb); have n2_ := AsZ.mk (bBl (g := gb374) (o := .cells #[.int .i64 0, .string (⟨#[]⟩ : ByteArray), .int .i64 0, .string (⟨#[]⟩ : ByteArray), .slice none 0 0] 64 (0, 0)) (by (with_reducible repeat (first | refine bDn ?_ _ | refine bDr ?_ | refine bAl ?_ _)); exact BK374.out) hb); have n3_ := AsZ.mk (tBl (by repeat (first | (with_reducible first | exact HB.out | apply aBl | apply pBd | apply dBl | refine sBl ?_ GE373.out | refine sBl ?_ GE374.out) | exact HB.out)) hb); clear BK373; clear BK374; clear HB; have HO377 := n0_; have BK373 := n1_; have BK374 := n2_; have HB := n3_; clear n0_ n1_ n2_ n3_; (try clear hb); (try clear hb2); (try clear hk); (try clear hi); (try clear ho0); obtain ⟨Ao23, co23, eo23⟩ := Kd.R_slice HO377.out; subst eo23; have hcz24_0 : w22.cell? ⟨gb373, 0, none⟩ = some (.int .i64 a1_0) := (bCe BK373.out 0).trans rfl; have hcz24_1 : w22.cell? ⟨gb373, 1, none⟩ = some (.string a1_1) := (bCe BK373.out 1).trans rfl; have hcz24_2 : w22.cell? ⟨gb373, 2, none⟩ = some (.int .i64 a1_2) := (bCe BK373.out 2).trans rfl; have hcz24_3 : w22.cell? ⟨gb373, 3, none⟩ = some (.string a1_3) := (bCe BK373.out 3).trans rfl; have hcz24_4 : w22.cell? ⟨gb373, 4, none⟩ = some (.slice A1_4 l1_4.length c1_4) := (bCe BK373.out 4).trans rfl; have hfz24_0 := bFz BK373.out 0; have hfz24_1 := bFz BK373.out 1; have hfz24_2 := bFz BK373.out 2; have hfz24_3 := bFz BK373.out 3; have hfz24_4 := bFz BK373.out 4) | ((with_reducible refine gCa (f := 42) rfl ?_); refine gLl (some 21) rfl rfl Try.func42 (by kernel_rfl) rfl #[] rfl (by (try simp only [List.map_toArray, List.map_cons, List.map_nil]); first | done | rfl | (simp only [List.length_drop, List.length_take]; rfl)) ?_; (with_reducible refine (reply_Down.calls  t389 t390 t391 t392 t393 _ A17.out).mono ?_); rintro e w25 ⟨v394, rfl, ho0, hb⟩; refine ⟨_, rfl, ?_⟩; have n0_ := AsZ.mk (Kd.R_elder' (by (with_reducible repeat (first | apply Kd.R_alloc | apply Kd.R_drewN | apply Kd.R_drew)); exact (Kd.R_mono (Kd.R_far (p := ⟨gb373, 4, none⟩) (Kd.R_types HO377.out BK373.out (by decide)) (fun _ hk => hk.2) (.slice Ao23 t375.length co23)) (fun _ h_ => h_.1))) (Kd.R_base ho0) hb); have n1_ := AsZ.mk (Kd.R_lower (Kd.R_new' ho0 (Kd.R_lt (by (with_reducible repeat (first | apply Kd.R_alloc | apply Kd.R_drewN | apply Kd.R_drew)); exact (Kd.R_mono (Kd.R_far (p := ⟨gb373, 4, none⟩) (Kd.R_types HO377.out BK373.out (by decide)) (fun _ hk => hk.2) (.slice Ao23 t375.length co23)) (fun _ h_ => h_.1))))) (zBl (by repeat (first | (with_reducible first | exact HB.out | apply aBl | apply pBd | apply dBl | refine sBl ?_ GE373.out | refine sBl ?_ GE374.out) | exact HB.out)))); have n2_ := AsZ.mk (bBl (g := gb373) (o := .cells #[.int .i64 a1_0, .string a1_1, .int .i64 a1_2, .string a1_3, .slice Ao23 t375.length co23] 64 (0, 0)) (by (with_reducible repeat (first | refine bDn ?_ _ | refine bDr ?_ | refine bAl ?_ _)); refine bPu (cs := #[.int .i64 a1_0, .string a1_1, .int .i64 a1_2, .string a1_3, .slice A1_4 l1_4.length c1_4]) ?_ 4 _ rfl; (with_reducible repeat (first | refine bDn ?_ _ | refine bDr ?_ | refine bAl ?_ _)); exact BK373.out) hb); have n3_ := AsZ.mk (bBl (g := gb374) (o := .cells #[.int .i64 0, .string (⟨#[]⟩ : ByteArray), .int .i64 0, .string (⟨#[]⟩ : ByteArray), .slice none 0 0] 64 (0, 0)) (by (with_reducible repeat (first | refine bDn ?_ _ | refine bDr ?_ | refine bAl ?_ _)); refine bFr ?_ NB374_373.out _; (with_reducible repeat (first | refine bDn ?_ _ | refine bDr ?_ | refine bAl ?_ _)); exact BK374.out) hb); have n4_ := AsZ.mk (tBl (by repeat (first | (with_reducible first | exact HB.out | apply aBl | apply pBd | apply dBl | refine sBl ?_ GE373.out | refine sBl ?_ GE374.out) | exact HB.out)) hb); clear HO377; clear BK373; clear BK374; clear HB; have HO377 := n0_; have HO395 := n1_; have BK373 := n2_; have BK374 := n3_; have HB := n4_; clear n0_ n1_ n2_ n3_ n4_; (try clear hb); (try clear hb2); (try clear hk); (try clear hi); (try clear ho0); have hcz26_0 : w25.cell? ⟨gb374, 0, none⟩ = some (.int .i64 0) := (bCe BK374.out 0).trans rfl; have hcz26_1 : w25.cell? ⟨gb374, 1, none⟩ = some (.string (⟨#[]⟩ : ByteArray)) := (bCe BK374.out 1).trans rfl; have hcz26_2 : w25.cell? ⟨gb374, 2, none⟩ = some (.int .i64 0) := (bCe BK374.out 2).trans rfl; have hcz26_3 : w25.cell? ⟨gb374, 3, none⟩ = some (.string (⟨#[]⟩ : ByteArray)) := (bCe BK374.out 3).trans rfl; have hcz26_4 : w25.cell? ⟨gb374, 4, none⟩ = some (.slice none 0 0) := (bCe BK374.out 4).trans rfl; have hfz26_0 := bFz BK374.out 0; have hfz26_1 := bFz BK374.out 1; have hfz26_2 := bFz BK374.out 2; have hfz26_3 := bFz BK374.out 3; have hfz26_4 := bFz BK374.out 4; obtain ⟨Ao27, co27, eo27⟩ := Kd.R_slice HO395.out; subst eo27))
      refine bodyPost_ret (results_cell_row rfl _ _ gb374 64 #[.int .i64 t389, .string t390, .int .i64 t391, .string t392, .slice Ao27 t393.length co27] (0, 0) _ rfl (by (with_reducible repeat (first | refine bDn ?_ _ | refine bDr ?_ | refine bAl ?_ _)); refine bPu (cs := #[.int .i64 t389, .string t390, .int .i64 t391, .string t392, .slice none 0 0]) ?_ 4 _ rfl; (with_reducible repeat (first | refine bDn ?_ _ | refine bDr ?_ | refine bAl ?_ _)); refine bPu (cs := #[.int .i64 t389, .string t390, .int .i64 t391, .string (⟨#[]⟩ : ByteArray), .slice none 0 0]) ?_ 3 _ rfl; (with_reducible repeat (first | refine bDn ?_ _ | refine bDr ?_ | refine bAl ?_ _)); refine bPu (cs := #[.int .i64 t389, .string t390, .int .i64 0, .string (⟨#[]⟩ : ByteArray), .slice none 0 0]) ?_ 2 _ rfl; (with_reducible repeat (first | refine bDn ?_ _ | refine bDr ?_ | refine bAl ?_ _)); refine bPu (cs := #[.int .i64 t389, .string (⟨#[]⟩ : ByteArray), .int .i64 0, .string (⟨#[]⟩ : ByteArray), .slice none 0 0]) ?_ 1 _ rfl; (with_reducible repeat (first | refine bDn ?_ _ | refine bDr ?_ | refine bAl ?_ _)); refine bPu (cs := #[.int .i64 0, .string (⟨#[]⟩ : ByteArray), .int .i64 0, .string (⟨#[]⟩ : ByteArray), .slice none 0 0]) ?_ 0 _ rfl; (with_reducible repeat (first | refine bDn ?_ _ | refine bDr ?_ | refine bAl ?_ _)); exact BK374.out) Try.underlying64 rfl (by kernel_rfl)) rfl ?_
      exact ⟨_, by first | rfl | (simp [eWn, eWs] <;> rfl) | (simp [*, eWn, eWs] <;> rfl), by (with_reducible repeat (first | apply Kd.R_alloc | apply Kd.R_drewN | apply Kd.R_drew)); exact Kd.R_mono (Kd.R_far (p := ⟨gb374, 4, none⟩) (Kd.R_far (p := ⟨gb374, 3, none⟩) (Kd.R_far (p := ⟨gb374, 2, none⟩) (Kd.R_far (p := ⟨gb374, 1, none⟩) (Kd.R_far (p := ⟨gb374, 0, none⟩) (Kd.R_types HO395.out BK374.out (by decide)) (fun _ hk => hk.2) (.int .i64 t389)) (fun _ hk => hk.2) (.string t390)) (fun _ hk => hk.2) (.int .i64 t391)) (fun _ hk => hk.2) (.string t392)) (fun _ hk => hk.2) (.slice Ao27 t393.length co27)) (fun _ hk => trivial), by repeat (first | (with_reducible first | exact HB.out | apply aBl | apply pBd | apply dBl | refine sBl ?_ GE373.out | refine sBl ?_ GE374.out) | exact HB.out)⟩
    · rw [if_neg c16] at H
      have c16b0 : (a0 == 1) = false := beq_eq_false_iff_ne.mpr c16
      have c16b1 : (a0 != 1) = true := bne_iff_ne.mpr c16
      by_cases c28 : a0 = 4
      · rw [if_pos c28] at H
        have c28b0 : (a0 == 4) = true := beq_iff_eq.mpr c28
        have c28b1 : (a0 != 4) = false := bne_eq_false_iff_eq.mpr c28
        clear c28
        by_cases c29 : a1_1.size + 1 ≤ 9223372036854775807
        · rw [if_pos c29] at H
          have c29b0 := eq_true c29
          have c29b1 : decide (a1_1.size + 1 ≤ 9223372036854775807) = true := decide_eq_true c29
          try have c29b2 : (9223372036854775807 < a1_1.size + 1) = False := eq_false (Nat.not_lt.2 c29)
          simp only [Option.some.injEq, Prod.mk.injEq] at H
          obtain ⟨rfl, rfl, rfl, rfl, rfl⟩ := H
          go_enter Try.func44, Try.ntmps44
          go_wp2_with (first | ((with_reducible refine gDs (N := 3) rfl ?_); refine bEv ?hg (N := 3) ?hd (cs := #[.int .i64 a1_0, .string a1_1, .int .i64 a1_2, .string a1_3, .slice A1_4 l1_4.length c1_4]) (t := 64) ?hr ?_; (case hd => rfl); (case hg => rfl); (case hr => first | (go_simp; done) | (go_simp; rfl)); intro gb373 hg w30 hbox hb; have n0_ := AsZ.mk (tBl (by repeat (first | (with_reducible first | exact HB.out | apply aBl | apply pBd | apply dBl) | exact HB.out)) hb); have n1_ := AsZ.mk (hbox); have n2_ := AsZ.mk ((by rw [hg]; exact (zBl (by repeat (first | (with_reducible first | exact HB.out | apply aBl | apply pBd | apply dBl) | exact HB.out))) : w.heap.size ≤ gb373)); have n3_ := AsZ.mk ((by rw [hg]; exact (zBl (by repeat (first | (with_reducible first | exact HB.out | apply aBl | apply pBd | apply dBl) | exact HB.out))) : w.heap.size ≤ gb373)); clear HB; have HB := n0_; have BK373 := n1_; have GW373 := n2_; have GE373 := n3_; clear n0_ n1_ n2_ n3_; clear hb hbox hg) | ((with_reducible refine gDs (N := 4) rfl ?_); refine bEv ?hg (N := 4) ?hd (cs := #[.int .i64 0, .string (⟨#[]⟩ : ByteArray), .int .i64 0, .string (⟨#[]⟩ : ByteArray), .slice none 0 0]) (t := 64) ?hr ?_; (case hd => rfl); (case hg => rfl); (case hr => first | (go_simp; done) | (go_simp; rfl)); intro gb374 hg w31 hbox hb; have n0_ := AsZ.mk (bBl (g := gb373) (o := .cells #[.int .i64 a1_0, .string a1_1, .int .i64 a1_2, .string a1_3, .slice A1_4 l1_4.length c1_4] 64 (0, 0)) (by (with_reducible repeat (first | refine bDn ?_ _ | refine bDr ?_ | refine bAl ?_ _)); exact BK373.out) hb); have n1_ := AsZ.mk (tBl (by repeat (first | (with_reducible first | exact HB.out | apply aBl | apply pBd | apply dBl | refine sBl ?_ GE373.out) | exact HB.out)) hb); have n2_ := AsZ.mk (hbox); have n3_ := AsZ.mk ((by rw [hg]; exact (zBl (by repeat (first | (with_reducible first | exact HB.out | apply aBl | apply pBd | apply dBl | refine sBl ?_ GE373.out) | exact HB.out))) : w.heap.size ≤ gb374)); have n4_ := AsZ.mk ((by rw [hg]; exact (zBl (by repeat (first | (with_reducible first | exact HB.out | apply aBl | apply pBd | apply dBl | refine sBl ?_ GE373.out) | exact HB.out))) : w.heap.size ≤ gb374)); have n5_ := AsZ.mk ((by rw [hg]; exact Nat.ne_of_lt (bLt (g := gb373) (o := .cells #[.int .i64 a1_0, .string a1_1, .int .i64 a1_2, .string a1_3, .slice A1_4 l1_4.length c1_4] 64 (0, 0)) (by (with_reducible repeat (first | refine bDn ?_ _ | refine bDr ?_ | refine bAl ?_ _)); exact BK373.out)) : gb373 ≠ gb374)); have n6_ := AsZ.mk ((by rw [hg]; exact Nat.ne_of_gt (bLt (g := gb373) (o := .cells #[.int .i64 a1_0, .string a1_1, .int .i64 a1_2, .string a1_3, .slice A1_4 l1_4.length c1_4] 64 (0, 0)) (by (with_reducible repeat (first | refine bDn ?_ _ | refine bDr ?_ | refine bAl ?_ _)); exact BK373.out)) : gb374 ≠ gb373)); clear BK373; clear HB; have BK373 := n0_; have HB := n1_; have BK374 := n2_; have GW374 := n3_; have GE374 := n4_; have NB373_374 := n5_; have NB374_373 := n6_; clear n0_ n1_ n2_ n3_ n4_ n5_ n6_; clear hb hbox hg; have hnb32 := NB373_374.out; have hnc32 := NB374_373.out; have hcz33_0 : w31.cell? ⟨gb373, 0, none⟩ = some (.int .i64 a1_0) := (bCe BK373.out 0).trans rfl; have hcz33_1 : w31.cell? ⟨gb373, 1, none⟩ = some (.string a1_1) := (bCe BK373.out 1).trans rfl; have hcz33_2 : w31.cell? ⟨gb373, 2, none⟩ = some (.int .i64 a1_2) := (bCe BK373.out 2).trans rfl; have hcz33_3 : w31.cell? ⟨gb373, 3, none⟩ = some (.string a1_3) := (bCe BK373.out 3).trans rfl; have hcz33_4 : w31.cell? ⟨gb373, 4, none⟩ = some (.slice A1_4 l1_4.length c1_4) := (bCe BK373.out 4).trans rfl; have hfz33_0 := bFz BK373.out 0; have hfz33_1 := bFz BK373.out 1; have hfz33_2 := bFz BK373.out 2; have hfz33_3 := bFz BK373.out 3; have hfz33_4 := bFz BK373.out 4) | ((with_reducible refine gCa (f := 61) rfl ?_); refine gLl (some 7) rfl rfl Try.func61 (by kernel_rfl) rfl #[.slice A1_4 l1_4.length c1_4] rfl (by (try simp only [List.map_toArray, List.map_cons, List.map_nil]); first | done | rfl | (simp only [List.length_drop, List.length_take]; rfl)) ?_; (with_reducible refine (bytes_Clone.calls _ _ l1_4 t375 _ ?side1 ?side2 A3.out).mono ?_); (case side1 => repeat (first | exact (Kd.C_below HR1_4.out HB.out) | (with_reducible refine Kd.C_alloc ?_ _) | (with_reducible refine Kd.C_drewN ?_ _) | (with_reducible refine Kd.C_drew ?_))); (case side2 => exact HC1_4.out); rintro e w34 ⟨v376, rfl, ho0, hb⟩; refine ⟨_, rfl, ?_⟩; have n0_ := AsZ.mk (Kd.R_lower ho0 (zBl (by repeat (first | (with_reducible first | exact HB.out | apply aBl | apply pBd | apply dBl | refine sBl ?_ GE373.out | refine sBl ?_ GE374.out) | exact HB.out)))); have n1_ := AsZ.mk (bBl (g := gb373) (o := .cells #[.int .i64 a1_0, .string a1_1, .int .i64 a1_2, .string a1_3, .slice A1_4 l1_4.length c1_4] 64 (0, 0)) (by (with_reducible repeat (first | refine bDn ?_ _ | refine bDr ?_ | refine bAl ?_ _)); exact BK373.out) hb); have n2_ := AsZ.mk (bBl (g := gb374) (o := .cells #[.int .i64 0, .string (⟨#[]⟩ : ByteArray), .int .i64 0, .string (⟨#[]⟩ : ByteArray), .slice none 0 0] 64 (0, 0)) (by (with_reducible repeat (first | refine bDn ?_ _ | refine bDr ?_ | refine bAl ?_ _)); exact BK374.out) hb); have n3_ := AsZ.mk (tBl (by repeat (first | (with_reducible first | exact HB.out | apply aBl | apply pBd | apply dBl | refine sBl ?_ GE373.out | refine sBl ?_ GE374.out) | exact HB.out)) hb); clear BK373; clear BK374; clear HB; have HO377 := n0_; have BK373 := n1_; have BK374 := n2_; have HB := n3_; clear n0_ n1_ n2_ n3_; (try clear hb); (try clear hb2); (try clear hk); (try clear hi); (try clear ho0); obtain ⟨Ao35, co35, eo35⟩ := Kd.R_slice HO377.out; subst eo35; have hcz36_0 : w34.cell? ⟨gb373, 0, none⟩ = some (.int .i64 a1_0) := (bCe BK373.out 0).trans rfl; have hcz36_1 : w34.cell? ⟨gb373, 1, none⟩ = some (.string a1_1) := (bCe BK373.out 1).trans rfl; have hcz36_2 : w34.cell? ⟨gb373, 2, none⟩ = some (.int .i64 a1_2) := (bCe BK373.out 2).trans rfl; have hcz36_3 : w34.cell? ⟨gb373, 3, none⟩ = some (.string a1_3) := (bCe BK373.out 3).trans rfl; have hcz36_4 : w34.cell? ⟨gb373, 4, none⟩ = some (.slice A1_4 l1_4.length c1_4) := (bCe BK373.out 4).trans rfl; have hfz36_0 := bFz BK373.out 0; have hfz36_1 := bFz BK373.out 1; have hfz36_2 := bFz BK373.out 2; have hfz36_3 := bFz BK373.out 3; have hfz36_4 := bFz BK373.out 4; have hcz37_0 : w34.cell? ⟨gb374, 0, none⟩ = some (.int .i64 0) := (bCe BK374.out 0).trans rfl; have hcz37_1 : w34.cell? ⟨gb374, 1, none⟩ = some (.string (⟨#[]⟩ : ByteArray)) := (bCe BK374.out 1).trans rfl; have hcz37_2 : w34.cell? ⟨gb374, 2, none⟩ = some (.int .i64 0) := (bCe BK374.out 2).trans rfl; have hcz37_3 : w34.cell? ⟨gb374, 3, none⟩ = some (.string (⟨#[]⟩ : ByteArray)) := (bCe BK374.out 3).trans rfl; have hcz37_4 : w34.cell? ⟨gb374, 4, none⟩ = some (.slice none 0 0) := (bCe BK374.out 4).trans rfl; have hfz37_0 := bFz BK374.out 0; have hfz37_1 := bFz BK374.out 1; have hfz37_2 := bFz BK374.out 2; have hfz37_3 := bFz BK374.out 3; have hfz37_4 := bFz BK374.out 4))
          refine bodyPost_ret (results_cell_row rfl _ _ gb374 64 #[.int .i64 a1_0, .string (a1_1 ++ (⟨#[34]⟩ : ByteArray)), .int .i64 a1_2, .string a1_3, .slice Ao35 t375.length co35] (0, 0) _ rfl (by (with_reducible repeat (first | refine bDn ?_ _ | refine bDr ?_ | refine bAl ?_ _)); refine bPu (cs := #[.int .i64 a1_0, .string (a1_1 ++ (⟨#[34]⟩ : ByteArray)), .int .i64 a1_2, .string a1_3, .slice none 0 0]) ?_ 4 _ rfl; (with_reducible repeat (first | refine bDn ?_ _ | refine bDr ?_ | refine bAl ?_ _)); refine bPu (cs := #[.int .i64 a1_0, .string (a1_1 ++ (⟨#[34]⟩ : ByteArray)), .int .i64 a1_2, .string (⟨#[]⟩ : ByteArray), .slice none 0 0]) ?_ 3 _ rfl; (with_reducible repeat (first | refine bDn ?_ _ | refine bDr ?_ | refine bAl ?_ _)); refine bPu (cs := #[.int .i64 a1_0, .string (a1_1 ++ (⟨#[34]⟩ : ByteArray)), .int .i64 0, .string (⟨#[]⟩ : ByteArray), .slice none 0 0]) ?_ 2 _ rfl; (with_reducible repeat (first | refine bDn ?_ _ | refine bDr ?_ | refine bAl ?_ _)); refine bPu (cs := #[.int .i64 a1_0, .string (⟨#[]⟩ : ByteArray), .int .i64 0, .string (⟨#[]⟩ : ByteArray), .slice none 0 0]) ?_ 1 _ rfl; (with_reducible repeat (first | refine bDn ?_ _ | refine bDr ?_ | refine bAl ?_ _)); refine bPu (cs := #[.int .i64 0, .string (⟨#[]⟩ : ByteArray), .int .i64 0, .string (⟨#[]⟩ : ByteArray), .slice none 0 0]) ?_ 0 _ rfl; (with_reducible repeat (first | refine bDn ?_ _ | refine bDr ?_ | refine bAl ?_ _)); refine bFr ?_ NB374_373.out _; (with_reducible repeat (first | refine bDn ?_ _ | refine bDr ?_ | refine bAl ?_ _)); refine bFr ?_ NB374_373.out _; (with_reducible repeat (first | refine bDn ?_ _ | refine bDr ?_ | refine bAl ?_ _)); exact BK374.out) Try.underlying64 rfl (by kernel_rfl)) rfl ?_
          exact ⟨_, by first | rfl | (simp [eWn, eWs] <;> rfl) | (simp [*, eWn, eWs] <;> rfl), by (with_reducible repeat (first | apply Kd.R_alloc | apply Kd.R_drewN | apply Kd.R_drew)); exact Kd.R_mono (Kd.R_far (p := ⟨gb374, 4, none⟩) (Kd.R_far (p := ⟨gb374, 3, none⟩) (Kd.R_far (p := ⟨gb374, 2, none⟩) (Kd.R_far (p := ⟨gb374, 1, none⟩) (Kd.R_far (p := ⟨gb374, 0, none⟩) (Kd.R_far (p := ⟨gb373, 1, none⟩) (Kd.R_far (p := ⟨gb373, 4, none⟩) (Kd.R_types (Kd.R_types HO377.out BK373.out (by decide)) BK374.out (by decide)) (fun _ hk => hk.1.2) (.slice Ao35 t375.length co35)) (fun _ hk => hk.1.2) (.string (a1_1 ++ (⟨#[34]⟩ : ByteArray)))) (fun _ hk => hk.2) (.int .i64 a1_0)) (fun _ hk => hk.2) (.string (a1_1 ++ (⟨#[34]⟩ : ByteArray)))) (fun _ hk => hk.2) (.int .i64 a1_2)) (fun _ hk => hk.2) (.string a1_3)) (fun _ hk => hk.2) (.slice Ao35 t375.length co35)) (fun _ hk => trivial), by repeat (first | (with_reducible first | exact HB.out | apply aBl | apply pBd | apply dBl | refine sBl ?_ GE373.out | refine sBl ?_ GE374.out) | exact HB.out)⟩
        · rw [if_neg c29] at H
          exact absurd H (by simp)
      · rw [if_neg c28] at H
        have c28b0 : (a0 == 4) = false := beq_eq_false_iff_ne.mpr c28
        have c28b1 : (a0 != 4) = true := bne_iff_ne.mpr c28
        by_cases c38 : a0 = 3
        · rw [if_pos c38] at H
          have c38b0 : (a0 == 3) = true := beq_iff_eq.mpr c38
          have c38b1 : (a0 != 3) = false := bne_eq_false_iff_eq.mpr c38
          clear c38
          replace H := Option.bind_eq_some_iff.mp H
          obtain ⟨t385, A390, H⟩ := H
          replace H : (some (a1_0, a1_1, a1_2, t385, t375)) = some (r1, r2, r3, r4, r5) := H
          have A39 := AsZ.mk A390
          clear A390
          simp only [Option.some.injEq, Prod.mk.injEq] at H
          obtain ⟨rfl, rfl, rfl, rfl, rfl⟩ := H
          go_enter Try.func44, Try.ntmps44
          go_wp2_with (first | ((with_reducible refine gDs (N := 3) rfl ?_); refine bEv ?hg (N := 3) ?hd (cs := #[.int .i64 a1_0, .string a1_1, .int .i64 a1_2, .string a1_3, .slice A1_4 l1_4.length c1_4]) (t := 64) ?hr ?_; (case hd => rfl); (case hg => rfl); (case hr => first | (go_simp; done) | (go_simp; rfl)); intro gb373 hg w40 hbox hb; have n0_ := AsZ.mk (tBl (by repeat (first | (with_reducible first | exact HB.out | apply aBl | apply pBd | apply dBl) | exact HB.out)) hb); have n1_ := AsZ.mk (hbox); have n2_ := AsZ.mk ((by rw [hg]; exact (zBl (by repeat (first | (with_reducible first | exact HB.out | apply aBl | apply pBd | apply dBl) | exact HB.out))) : w.heap.size ≤ gb373)); have n3_ := AsZ.mk ((by rw [hg]; exact (zBl (by repeat (first | (with_reducible first | exact HB.out | apply aBl | apply pBd | apply dBl) | exact HB.out))) : w.heap.size ≤ gb373)); clear HB; have HB := n0_; have BK373 := n1_; have GW373 := n2_; have GE373 := n3_; clear n0_ n1_ n2_ n3_; clear hb hbox hg) | ((with_reducible refine gDs (N := 4) rfl ?_); refine bEv ?hg (N := 4) ?hd (cs := #[.int .i64 0, .string (⟨#[]⟩ : ByteArray), .int .i64 0, .string (⟨#[]⟩ : ByteArray), .slice none 0 0]) (t := 64) ?hr ?_; (case hd => rfl); (case hg => rfl); (case hr => first | (go_simp; done) | (go_simp; rfl)); intro gb374 hg w41 hbox hb; have n0_ := AsZ.mk (bBl (g := gb373) (o := .cells #[.int .i64 a1_0, .string a1_1, .int .i64 a1_2, .string a1_3, .slice A1_4 l1_4.length c1_4] 64 (0, 0)) (by (with_reducible repeat (first | refine bDn ?_ _ | refine bDr ?_ | refine bAl ?_ _)); exact BK373.out) hb); have n1_ := AsZ.mk (tBl (by repeat (first | (with_reducible first | exact HB.out | apply aBl | apply pBd | apply dBl | refine sBl ?_ GE373.out) | exact HB.out)) hb); have n2_ := AsZ.mk (hbox); have n3_ := AsZ.mk ((by rw [hg]; exact (zBl (by repeat (first | (with_reducible first | exact HB.out | apply aBl | apply pBd | apply dBl | refine sBl ?_ GE373.out) | exact HB.out))) : w.heap.size ≤ gb374)); have n4_ := AsZ.mk ((by rw [hg]; exact (zBl (by repeat (first | (with_reducible first | exact HB.out | apply aBl | apply pBd | apply dBl | refine sBl ?_ GE373.out) | exact HB.out))) : w.heap.size ≤ gb374)); have n5_ := AsZ.mk ((by rw [hg]; exact Nat.ne_of_lt (bLt (g := gb373) (o := .cells #[.int .i64 a1_0, .string a1_1, .int .i64 a1_2, .string a1_3, .slice A1_4 l1_4.length c1_4] 64 (0, 0)) (by (with_reducible repeat (first | refine bDn ?_ _ | refine bDr ?_ | refine bAl ?_ _)); exact BK373.out)) : gb373 ≠ gb374)); have n6_ := AsZ.mk ((by rw [hg]; exact Nat.ne_of_gt (bLt (g := gb373) (o := .cells #[.int .i64 a1_0, .string a1_1, .int .i64 a1_2, .string a1_3, .slice A1_4 l1_4.length c1_4] 64 (0, 0)) (by (with_reducible repeat (first | refine bDn ?_ _ | refine bDr ?_ | refine bAl ?_ _)); exact BK373.out)) : gb374 ≠ gb373)); clear BK373; clear HB; have BK373 := n0_; have HB := n1_; have BK374 := n2_; have GW374 := n3_; have GE374 := n4_; have NB373_374 := n5_; have NB374_373 := n6_; clear n0_ n1_ n2_ n3_ n4_ n5_ n6_; clear hb hbox hg; have hnb42 := NB373_374.out; have hnc42 := NB374_373.out; have hcz43_0 : w41.cell? ⟨gb373, 0, none⟩ = some (.int .i64 a1_0) := (bCe BK373.out 0).trans rfl; have hcz43_1 : w41.cell? ⟨gb373, 1, none⟩ = some (.string a1_1) := (bCe BK373.out 1).trans rfl; have hcz43_2 : w41.cell? ⟨gb373, 2, none⟩ = some (.int .i64 a1_2) := (bCe BK373.out 2).trans rfl; have hcz43_3 : w41.cell? ⟨gb373, 3, none⟩ = some (.string a1_3) := (bCe BK373.out 3).trans rfl; have hcz43_4 : w41.cell? ⟨gb373, 4, none⟩ = some (.slice A1_4 l1_4.length c1_4) := (bCe BK373.out 4).trans rfl; have hfz43_0 := bFz BK373.out 0; have hfz43_1 := bFz BK373.out 1; have hfz43_2 := bFz BK373.out 2; have hfz43_3 := bFz BK373.out 3; have hfz43_4 := bFz BK373.out 4) | ((with_reducible refine gCa (f := 61) rfl ?_); refine gLl (some 7) rfl rfl Try.func61 (by kernel_rfl) rfl #[.slice A1_4 l1_4.length c1_4] rfl (by (try simp only [List.map_toArray, List.map_cons, List.map_nil]); first | done | rfl | (simp only [List.length_drop, List.length_take]; rfl)) ?_; (with_reducible refine (bytes_Clone.calls _ _ l1_4 t375 _ ?side1 ?side2 A3.out).mono ?_); (case side1 => repeat (first | exact (Kd.C_below HR1_4.out HB.out) | (with_reducible refine Kd.C_alloc ?_ _) | (with_reducible refine Kd.C_drewN ?_ _) | (with_reducible refine Kd.C_drew ?_))); (case side2 => exact HC1_4.out); rintro e w44 ⟨v376, rfl, ho0, hb⟩; refine ⟨_, rfl, ?_⟩; have n0_ := AsZ.mk (Kd.R_lower ho0 (zBl (by repeat (first | (with_reducible first | exact HB.out | apply aBl | apply pBd | apply dBl | refine sBl ?_ GE373.out | refine sBl ?_ GE374.out) | exact HB.out)))); have n1_ := AsZ.mk (bBl (g := gb373) (o := .cells #[.int .i64 a1_0, .string a1_1, .int .i64 a1_2, .string a1_3, .slice A1_4 l1_4.length c1_4] 64 (0, 0)) (by (with_reducible repeat (first | refine bDn ?_ _ | refine bDr ?_ | refine bAl ?_ _)); exact BK373.out) hb); have n2_ := AsZ.mk (bBl (g := gb374) (o := .cells #[.int .i64 0, .string (⟨#[]⟩ : ByteArray), .int .i64 0, .string (⟨#[]⟩ : ByteArray), .slice none 0 0] 64 (0, 0)) (by (with_reducible repeat (first | refine bDn ?_ _ | refine bDr ?_ | refine bAl ?_ _)); exact BK374.out) hb); have n3_ := AsZ.mk (tBl (by repeat (first | (with_reducible first | exact HB.out | apply aBl | apply pBd | apply dBl | refine sBl ?_ GE373.out | refine sBl ?_ GE374.out) | exact HB.out)) hb); clear BK373; clear BK374; clear HB; have HO377 := n0_; have BK373 := n1_; have BK374 := n2_; have HB := n3_; clear n0_ n1_ n2_ n3_; (try clear hb); (try clear hb2); (try clear hk); (try clear hi); (try clear ho0); obtain ⟨Ao45, co45, eo45⟩ := Kd.R_slice HO377.out; subst eo45; have hcz46_0 : w44.cell? ⟨gb373, 0, none⟩ = some (.int .i64 a1_0) := (bCe BK373.out 0).trans rfl; have hcz46_1 : w44.cell? ⟨gb373, 1, none⟩ = some (.string a1_1) := (bCe BK373.out 1).trans rfl; have hcz46_2 : w44.cell? ⟨gb373, 2, none⟩ = some (.int .i64 a1_2) := (bCe BK373.out 2).trans rfl; have hcz46_3 : w44.cell? ⟨gb373, 3, none⟩ = some (.string a1_3) := (bCe BK373.out 3).trans rfl; have hcz46_4 : w44.cell? ⟨gb373, 4, none⟩ = some (.slice A1_4 l1_4.length c1_4) := (bCe BK373.out 4).trans rfl; have hfz46_0 := bFz BK373.out 0; have hfz46_1 := bFz BK373.out 1; have hfz46_2 := bFz BK373.out 2; have hfz46_3 := bFz BK373.out 3; have hfz46_4 := bFz BK373.out 4) | ((with_reducible refine gCa (f := 69) rfl ?_); refine gLl (some 28) rfl rfl Try.func69 (by kernel_rfl) rfl #[.string a1_3] rfl (by (try simp only [List.map_toArray, List.map_cons, List.map_nil]); first | done | rfl | (simp only [List.length_drop, List.length_take]; rfl)) ?_; (with_reducible refine (reply_shifted.calls k a1_3 t385 _ A39.out).mono ?_); rintro e w47 ⟨rfl, hb⟩; refine ⟨_, rfl, ?_⟩; have n0_ := AsZ.mk (Kd.R_below (by (with_reducible repeat (first | apply Kd.R_alloc | apply Kd.R_drewN | apply Kd.R_drew)); exact (Kd.R_mono (Kd.R_far (p := ⟨gb373, 4, none⟩) (Kd.R_types HO377.out BK373.out (by decide)) (fun _ hk => hk.2) (.slice Ao45 t375.length co45)) (fun _ h_ => h_.1))) hb); have n1_ := AsZ.mk (bBl (g := gb373) (o := .cells #[.int .i64 a1_0, .string a1_1, .int .i64 a1_2, .string a1_3, .slice Ao45 t375.length co45] 64 (0, 0)) (by (with_reducible repeat (first | refine bDn ?_ _ | refine bDr ?_ | refine bAl ?_ _)); refine bPu (cs := #[.int .i64 a1_0, .string a1_1, .int .i64 a1_2, .string a1_3, .slice A1_4 l1_4.length c1_4]) ?_ 4 _ rfl; (with_reducible repeat (first | refine bDn ?_ _ | refine bDr ?_ | refine bAl ?_ _)); exact BK373.out) hb); have n2_ := AsZ.mk (bBl (g := gb374) (o := .cells #[.int .i64 0, .string (⟨#[]⟩ : ByteArray), .int .i64 0, .string (⟨#[]⟩ : ByteArray), .slice none 0 0] 64 (0, 0)) (by (with_reducible repeat (first | refine bDn ?_ _ | refine bDr ?_ | refine bAl ?_ _)); refine bFr ?_ NB374_373.out _; (with_reducible repeat (first | refine bDn ?_ _ | refine bDr ?_ | refine bAl ?_ _)); exact BK374.out) hb); have n3_ := AsZ.mk (tBl (by repeat (first | (with_reducible first | exact HB.out | apply aBl | apply pBd | apply dBl | refine sBl ?_ GE373.out | refine sBl ?_ GE374.out) | exact HB.out)) hb); clear HO377; clear BK373; clear BK374; clear HB; have HO377 := n0_; have BK373 := n1_; have BK374 := n2_; have HB := n3_; clear n0_ n1_ n2_ n3_; (try clear hb); (try clear hb2); (try clear hk); (try clear hi); have hcz48_0 : w47.cell? ⟨gb373, 0, none⟩ = some (.int .i64 a1_0) := (bCe BK373.out 0).trans rfl; have hcz48_1 : w47.cell? ⟨gb373, 1, none⟩ = some (.string a1_1) := (bCe BK373.out 1).trans rfl; have hcz48_2 : w47.cell? ⟨gb373, 2, none⟩ = some (.int .i64 a1_2) := (bCe BK373.out 2).trans rfl; have hcz48_3 : w47.cell? ⟨gb373, 3, none⟩ = some (.string a1_3) := (bCe BK373.out 3).trans rfl; have hcz48_4 : w47.cell? ⟨gb373, 4, none⟩ = some (.slice Ao45 t375.length co45) := (bCe BK373.out 4).trans rfl; have hfz48_0 := bFz BK373.out 0; have hfz48_1 := bFz BK373.out 1; have hfz48_2 := bFz BK373.out 2; have hfz48_3 := bFz BK373.out 3; have hfz48_4 := bFz BK373.out 4; have hcz49_0 : w47.cell? ⟨gb374, 0, none⟩ = some (.int .i64 0) := (bCe BK374.out 0).trans rfl; have hcz49_1 : w47.cell? ⟨gb374, 1, none⟩ = some (.string (⟨#[]⟩ : ByteArray)) := (bCe BK374.out 1).trans rfl; have hcz49_2 : w47.cell? ⟨gb374, 2, none⟩ = some (.int .i64 0) := (bCe BK374.out 2).trans rfl; have hcz49_3 : w47.cell? ⟨gb374, 3, none⟩ = some (.string (⟨#[]⟩ : ByteArray)) := (bCe BK374.out 3).trans rfl; have hcz49_4 : w47.cell? ⟨gb374, 4, none⟩ = some (.slice none 0 0) := (bCe BK374.out 4).trans rfl; have hfz49_0 := bFz BK374.out 0; have hfz49_1 := bFz BK374.out 1; have hfz49_2 := bFz BK374.out 2; have hfz49_3 := bFz BK374.out 3; have hfz49_4 := bFz BK374.out 4))
          refine bodyPost_ret (results_cell_row rfl _ _ gb374 64 #[.int .i64 a1_0, .string a1_1, .int .i64 a1_2, .string t385, .slice Ao45 t375.length co45] (0, 0) _ rfl (by (with_reducible repeat (first | refine bDn ?_ _ | refine bDr ?_ | refine bAl ?_ _)); refine bPu (cs := #[.int .i64 a1_0, .string a1_1, .int .i64 a1_2, .string t385, .slice none 0 0]) ?_ 4 _ rfl; (with_reducible repeat (first | refine bDn ?_ _ | refine bDr ?_ | refine bAl ?_ _)); refine bPu (cs := #[.int .i64 a1_0, .string a1_1, .int .i64 a1_2, .string (⟨#[]⟩ : ByteArray), .slice none 0 0]) ?_ 3 _ rfl; (with_reducible repeat (first | refine bDn ?_ _ | refine bDr ?_ | refine bAl ?_ _)); refine bPu (cs := #[.int .i64 a1_0, .string a1_1, .int .i64 0, .string (⟨#[]⟩ : ByteArray), .slice none 0 0]) ?_ 2 _ rfl; (with_reducible repeat (first | refine bDn ?_ _ | refine bDr ?_ | refine bAl ?_ _)); refine bPu (cs := #[.int .i64 a1_0, .string (⟨#[]⟩ : ByteArray), .int .i64 0, .string (⟨#[]⟩ : ByteArray), .slice none 0 0]) ?_ 1 _ rfl; (with_reducible repeat (first | refine bDn ?_ _ | refine bDr ?_ | refine bAl ?_ _)); refine bPu (cs := #[.int .i64 0, .string (⟨#[]⟩ : ByteArray), .int .i64 0, .string (⟨#[]⟩ : ByteArray), .slice none 0 0]) ?_ 0 _ rfl; (with_reducible repeat (first | refine bDn ?_ _ | refine bDr ?_ | refine bAl ?_ _)); refine bFr ?_ NB374_373.out _; (with_reducible repeat (first | refine bDn ?_ _ | refine bDr ?_ | refine bAl ?_ _)); exact BK374.out) Try.underlying64 rfl (by kernel_rfl)) rfl ?_
          exact ⟨_, by first | rfl | (simp [eWn, eWs] <;> rfl) | (simp [*, eWn, eWs] <;> rfl), by (with_reducible repeat (first | apply Kd.R_alloc | apply Kd.R_drewN | apply Kd.R_drew)); exact Kd.R_mono (Kd.R_far (p := ⟨gb374, 4, none⟩) (Kd.R_far (p := ⟨gb374, 3, none⟩) (Kd.R_far (p := ⟨gb374, 2, none⟩) (Kd.R_far (p := ⟨gb374, 1, none⟩) (Kd.R_far (p := ⟨gb374, 0, none⟩) (Kd.R_far (p := ⟨gb373, 3, none⟩) (Kd.R_types (Kd.R_types HO377.out BK373.out (by decide)) BK374.out (by decide)) (fun _ hk => hk.1.2) (.string t385)) (fun _ hk => hk.2) (.int .i64 a1_0)) (fun _ hk => hk.2) (.string a1_1)) (fun _ hk => hk.2) (.int .i64 a1_2)) (fun _ hk => hk.2) (.string t385)) (fun _ hk => hk.2) (.slice Ao45 t375.length co45)) (fun _ hk => trivial), by repeat (first | (with_reducible first | exact HB.out | apply aBl | apply pBd | apply dBl | refine sBl ?_ GE373.out | refine sBl ?_ GE374.out) | exact HB.out)⟩
        · rw [if_neg c38] at H
          have c38b0 : (a0 == 3) = false := beq_eq_false_iff_ne.mpr c38
          have c38b1 : (a0 != 3) = true := bne_iff_ne.mpr c38
          by_cases c50 : a0 = 2
          · rw [if_pos c50] at H
            have c50b0 : (a0 == 2) = true := beq_iff_eq.mpr c50
            have c50b1 : (a0 != 2) = false := bne_eq_false_iff_eq.mpr c50
            clear c50
            by_cases c51 : (t375.length : Int) > 0
            · rw [if_pos c51] at H
              have c51b0 : decide (0 < (t375.length : Int)) = true := decide_eq_true c51
              have c51b1 : decide (0 < t375.length) = true := decide_eq_true (by omega)
              clear c51
              obtain ⟨ji52, hji52⟩ : ∃ j_ : Int, (wrap64 ((t375.length : Int) - 1)) = j_ := ⟨_, rfl⟩
              replace H : (if 0 ≤ (ji52) then (if (ji52) ≤ (t375.length : Int) then (some (a1_0, a1_1, a1_2, a1_3, (t375.take ((ji52) : Int).toNat))) else (none)) else (none)) = some (r1, r2, r3, r4, r5) := by first | (rw [hji52] at H; exact H) | (simp only [hji52] at H ⊢; exact H)
              (try rw [hji52] at A3)
              have hji52w : (IntKind.i64.wrap ((t375.length : Int) - 1)) = ji52 := (i64_w _).trans hji52
              by_cases c53 : 0 ≤ (ji52)
              · rw [if_pos c53] at H
                have c53b0 := eq_true c53
                have c53b1 : decide (0 ≤ (ji52)) = true := decide_eq_true c53
                clear c53
                by_cases c54 : (ji52) ≤ (t375.length : Int)
                · rw [if_pos c54] at H
                  have c54b0 := eq_true c54
                  have c54b1 : decide ((ji52) ≤ (t375.length : Int)) = true := decide_eq_true c54
                  clear c54
                  obtain ⟨y386, hy386⟩ : ∃ y_ : List Int, y_ = (t375.take ((ji52) : Int).toNat) := ⟨_, rfl⟩
                  replace H : (some (a1_0, a1_1, a1_2, a1_3, y386)) = some (r1, r2, r3, r4, r5) := by first | (rw [hy386]; with_reducible exact H) | (have H2_ := (Option.bind_some _ _).symm.trans H; rw [hy386]; with_reducible exact H2_) | (have H2_ := (Option.bind_some _ _).symm.trans H; with_reducible exact H2_) | with_reducible exact H | (rw [hy386]; exact H) | exact H
                  have Ny386 := AsZ.mk hy386
                  clear hy386
                  simp only [Option.some.injEq, Prod.mk.injEq] at H
                  obtain ⟨rfl, rfl, rfl, rfl, rfl⟩ := H
                  go_enter Try.func44, Try.ntmps44
                  go_wp2_with (first | ((with_reducible refine gDs (N := 3) rfl ?_); refine bEv ?hg (N := 3) ?hd (cs := #[.int .i64 a1_0, .string a1_1, .int .i64 a1_2, .string a1_3, .slice A1_4 l1_4.length c1_4]) (t := 64) ?hr ?_; (case hd => rfl); (case hg => rfl); (case hr => first | (go_simp; done) | (go_simp; rfl)); intro gb373 hg w55 hbox hb; have n0_ := AsZ.mk (tBl (by repeat (first | (with_reducible first | exact HB.out | apply aBl | apply pBd | apply dBl) | exact HB.out)) hb); have n1_ := AsZ.mk (hbox); have n2_ := AsZ.mk ((by rw [hg]; exact (zBl (by repeat (first | (with_reducible first | exact HB.out | apply aBl | apply pBd | apply dBl) | exact HB.out))) : w.heap.size ≤ gb373)); have n3_ := AsZ.mk ((by rw [hg]; exact (zBl (by repeat (first | (with_reducible first | exact HB.out | apply aBl | apply pBd | apply dBl) | exact HB.out))) : w.heap.size ≤ gb373)); clear HB; have HB := n0_; have BK373 := n1_; have GW373 := n2_; have GE373 := n3_; clear n0_ n1_ n2_ n3_; clear hb hbox hg) | ((with_reducible refine gDs (N := 4) rfl ?_); refine bEv ?hg (N := 4) ?hd (cs := #[.int .i64 0, .string (⟨#[]⟩ : ByteArray), .int .i64 0, .string (⟨#[]⟩ : ByteArray), .slice none 0 0]) (t := 64) ?hr ?_; (case hd => rfl); (case hg => rfl); (case hr => first | (go_simp; done) | (go_simp; rfl)); intro gb374 hg w56 hbox hb; have n0_ := AsZ.mk (bBl (g := gb373) (o := .cells #[.int .i64 a1_0, .string a1_1, .int .i64 a1_2, .string a1_3, .slice A1_4 l1_4.length c1_4] 64 (0, 0)) (by (with_reducible repeat (first | refine bDn ?_ _ | refine bDr ?_ | refine bAl ?_ _)); exact BK373.out) hb); have n1_ := AsZ.mk (tBl (by repeat (first | (with_reducible first | exact HB.out | apply aBl | apply pBd | apply dBl | refine sBl ?_ GE373.out) | exact HB.out)) hb); have n2_ := AsZ.mk (hbox); have n3_ := AsZ.mk ((by rw [hg]; exact (zBl (by repeat (first | (with_reducible first | exact HB.out | apply aBl | apply pBd | apply dBl | refine sBl ?_ GE373.out) | exact HB.out))) : w.heap.size ≤ gb374)); have n4_ := AsZ.mk ((by rw [hg]; exact (zBl (by repeat (first | (with_reducible first | exact HB.out | apply aBl | apply pBd | apply dBl | refine sBl ?_ GE373.out) | exact HB.out))) : w.heap.size ≤ gb374)); have n5_ := AsZ.mk ((by rw [hg]; exact Nat.ne_of_lt (bLt (g := gb373) (o := .cells #[.int .i64 a1_0, .string a1_1, .int .i64 a1_2, .string a1_3, .slice A1_4 l1_4.length c1_4] 64 (0, 0)) (by (with_reducible repeat (first | refine bDn ?_ _ | refine bDr ?_ | refine bAl ?_ _)); exact BK373.out)) : gb373 ≠ gb374)); have n6_ := AsZ.mk ((by rw [hg]; exact Nat.ne_of_gt (bLt (g := gb373) (o := .cells #[.int .i64 a1_0, .string a1_1, .int .i64 a1_2, .string a1_3, .slice A1_4 l1_4.length c1_4] 64 (0, 0)) (by (with_reducible repeat (first | refine bDn ?_ _ | refine bDr ?_ | refine bAl ?_ _)); exact BK373.out)) : gb374 ≠ gb373)); clear BK373; clear HB; have BK373 := n0_; have HB := n1_; have BK374 := n2_; have GW374 := n3_; have GE374 := n4_; have NB373_374 := n5_; have NB374_373 := n6_; clear n0_ n1_ n2_ n3_ n4_ n5_ n6_; clear hb hbox hg; have hnb57 := NB373_374.out; have hnc57 := NB374_373.out; have hcz58_0 : w56.cell? ⟨gb373, 0, none⟩ = some (.int .i64 a1_0) := (bCe BK373.out 0).trans rfl; have hcz58_1 : w56.cell? ⟨gb373, 1, none⟩ = some (.string a1_1) := (bCe BK373.out 1).trans rfl; have hcz58_2 : w56.cell? ⟨gb373, 2, none⟩ = some (.int .i64 a1_2) := (bCe BK373.out 2).trans rfl; have hcz58_3 : w56.cell? ⟨gb373, 3, none⟩ = some (.string a1_3) := (bCe BK373.out 3).trans rfl; have hcz58_4 : w56.cell? ⟨gb373, 4, none⟩ = some (.slice A1_4 l1_4.length c1_4) := (bCe BK373.out 4).trans rfl; have hfz58_0 := bFz BK373.out 0; have hfz58_1 := bFz BK373.out 1; have hfz58_2 := bFz BK373.out 2; have hfz58_3 := bFz BK373.out 3; have hfz58_4 := bFz BK373.out 4) | ((with_reducible refine gCa (f := 61) rfl ?_); refine gLl (some 7) rfl rfl Try.func61 (by kernel_rfl) rfl #[.slice A1_4 l1_4.length c1_4] rfl (by (try simp only [List.map_toArray, List.map_cons, List.map_nil]); first | done | rfl | (simp only [List.length_drop, List.length_take]; rfl)) ?_; (with_reducible refine (bytes_Clone.calls _ _ l1_4 t375 _ ?side1 ?side2 A3.out).mono ?_); (case side1 => repeat (first | exact (Kd.C_below HR1_4.out HB.out) | (with_reducible refine Kd.C_alloc ?_ _) | (with_reducible refine Kd.C_drewN ?_ _) | (with_reducible refine Kd.C_drew ?_))); (case side2 => exact HC1_4.out); rintro e w59 ⟨v376, rfl, ho0, hb⟩; refine ⟨_, rfl, ?_⟩; have n0_ := AsZ.mk (Kd.R_lower ho0 (zBl (by repeat (first | (with_reducible first | exact HB.out | apply aBl | apply pBd | apply dBl | refine sBl ?_ GE373.out | refine sBl ?_ GE374.out) | exact HB.out)))); have n1_ := AsZ.mk (bBl (g := gb373) (o := .cells #[.int .i64 a1_0, .string a1_1, .int .i64 a1_2, .string a1_3, .slice A1_4 l1_4.length c1_4] 64 (0, 0)) (by (with_reducible repeat (first | refine bDn ?_ _ | refine bDr ?_ | refine bAl ?_ _)); exact BK373.out) hb); have n2_ := AsZ.mk (bBl (g := gb374) (o := .cells #[.int .i64 0, .string (⟨#[]⟩ : ByteArray), .int .i64 0, .string (⟨#[]⟩ : ByteArray), .slice none 0 0] 64 (0, 0)) (by (with_reducible repeat (first | refine bDn ?_ _ | refine bDr ?_ | refine bAl ?_ _)); exact BK374.out) hb); have n3_ := AsZ.mk (tBl (by repeat (first | (with_reducible first | exact HB.out | apply aBl | apply pBd | apply dBl | refine sBl ?_ GE373.out | refine sBl ?_ GE374.out) | exact HB.out)) hb); clear BK373; clear BK374; clear HB; have HO377 := n0_; have BK373 := n1_; have BK374 := n2_; have HB := n3_; clear n0_ n1_ n2_ n3_; (try clear hb); (try clear hb2); (try clear hk); (try clear hi); (try clear ho0); obtain ⟨Ao60, co60, eo60⟩ := Kd.R_slice HO377.out; subst eo60; have hcz61_0 : w59.cell? ⟨gb373, 0, none⟩ = some (.int .i64 a1_0) := (bCe BK373.out 0).trans rfl; have hcz61_1 : w59.cell? ⟨gb373, 1, none⟩ = some (.string a1_1) := (bCe BK373.out 1).trans rfl; have hcz61_2 : w59.cell? ⟨gb373, 2, none⟩ = some (.int .i64 a1_2) := (bCe BK373.out 2).trans rfl; have hcz61_3 : w59.cell? ⟨gb373, 3, none⟩ = some (.string a1_3) := (bCe BK373.out 3).trans rfl; have hcz61_4 : w59.cell? ⟨gb373, 4, none⟩ = some (.slice A1_4 l1_4.length c1_4) := (bCe BK373.out 4).trans rfl; have hfz61_0 := bFz BK373.out 0; have hfz61_1 := bFz BK373.out 1; have hfz61_2 := bFz BK373.out 2; have hfz61_3 := bFz BK373.out 3; have hfz61_4 := bFz BK373.out 4) | ((with_reducible refine gate_store (t := 32) (p := 8) rfl ?_); refine store_event (t := 32) (p := 8) (v := ?vo_w62) (w1 := (w59.setCell ⟨gb373, 4, none⟩ (.slice Ao60 t375.length co60))) ?hg ?ho ?hn ?hr ?_; (case ho => rfl); (case hg => rfl); (case hn => rfl); (case hr => first | (go_simp; done) | (go_simp; rfl)); intro w62 hw; have n0_ : AsZ (Kd.R (Kd.int .u8) 5 w62 w.heap.size (fun _ => True) (.slice Ao60 t375.length co60) t375) := ⟨(by rw [hw]; exact (by (with_reducible repeat (first | apply Kd.R_alloc | apply Kd.R_drewN | apply Kd.R_drew)); exact Kd.R_mono (Kd.R_far (p := ⟨gb373, 4, none⟩) (Kd.R_types HO377.out BK373.out (by decide)) (fun _ hk => hk.2) (.slice Ao60 t375.length co60)) (fun _ hk => trivial)))⟩; have n1_ : AsZ (w62.heap[gb373]? = some (.cells #[.int .i64 a1_0, .string a1_1, .int .i64 a1_2, .string a1_3, .slice Ao60 t375.length co60] 64 (0, 0))) := ⟨(by rw [hw]; exact (by (with_reducible repeat (first | refine bDn ?_ _ | refine bDr ?_ | refine bAl ?_ _)); refine bPu (cs := #[.int .i64 a1_0, .string a1_1, .int .i64 a1_2, .string a1_3, .slice A1_4 l1_4.length c1_4]) ?_ 4 _ rfl; (with_reducible repeat (first | refine bDn ?_ _ | refine bDr ?_ | refine bAl ?_ _)); exact BK373.out))⟩; have n2_ : AsZ (w62.heap[gb374]? = some (.cells #[.int .i64 0, .string (⟨#[]⟩ : ByteArray), .int .i64 0, .string (⟨#[]⟩ : ByteArray), .slice none 0 0] 64 (0, 0))) := ⟨(by rw [hw]; exact (by (with_reducible repeat (first | refine bDn ?_ _ | refine bDr ?_ | refine bAl ?_ _)); refine bFr ?_ NB374_373.out _; (with_reducible repeat (first | refine bDn ?_ _ | refine bDr ?_ | refine bAl ?_ _)); exact BK374.out))⟩; have n3_ : AsZ (Below w.heap.size w w62) := ⟨(by rw [hw]; exact (by repeat (first | (with_reducible first | exact HB.out | apply aBl | apply pBd | apply dBl | refine sBl ?_ GE373.out | refine sBl ?_ GE374.out) | exact HB.out)))⟩; clear hw; clear HO377; clear BK373; clear BK374; clear HB; have HO377 := n0_; have BK373 := n1_; have BK374 := n2_; have HB := n3_; clear n0_ n1_ n2_ n3_; have hcz63_0 : w62.cell? ⟨gb373, 0, none⟩ = some (.int .i64 a1_0) := (bCe BK373.out 0).trans rfl; have hcz63_1 : w62.cell? ⟨gb373, 1, none⟩ = some (.string a1_1) := (bCe BK373.out 1).trans rfl; have hcz63_2 : w62.cell? ⟨gb373, 2, none⟩ = some (.int .i64 a1_2) := (bCe BK373.out 2).trans rfl; have hcz63_3 : w62.cell? ⟨gb373, 3, none⟩ = some (.string a1_3) := (bCe BK373.out 3).trans rfl; have hcz63_4 : w62.cell? ⟨gb373, 4, none⟩ = some (.slice Ao60 t375.length co60) := (bCe BK373.out 4).trans rfl; have hfz63_0 := bFz BK373.out 0; have hfz63_1 := bFz BK373.out 1; have hfz63_2 := bFz BK373.out 2; have hfz63_3 := bFz BK373.out 3; have hfz63_4 := bFz BK373.out 4; have q64 : ((ji52) : Int) ≤ ((t375.length : Int) : Int) := of_decide_eq_true (by first | (with_reducible assumption) | assumption); obtain ⟨i064, hi064, _, hsz64, _⟩ := info_parts info5; have hcut64 := cut_to (P := Try.prog) 32 5 .i64 Try.underlying32 hi064 Ao60 t375.length co60 (ji52) (of_decide_eq_true (by first | (with_reducible assumption) | assumption)) q64 (Kd.R_reads' HO377.out).2.1; have hr64 := Kd.R_take (m := ((ji52) : Int).toNat) HO377.out (by omega); have hy64 : y386.length = ((ji52) : Int).toNat := (by rw [Ny386.out, List.length_take]; omega); rw [← Ny386.out] at hr64; rw [← hy64] at hr64 hcut64; clear hy64 hi064 hsz64 HO377; have HO388 := AsZ.mk hr64; clear hr64; replace q64 := eq_true q64; have hcz65_0 : w62.cell? ⟨gb374, 0, none⟩ = some (.int .i64 0) := (bCe BK374.out 0).trans rfl; have hcz65_1 : w62.cell? ⟨gb374, 1, none⟩ = some (.string (⟨#[]⟩ : ByteArray)) := (bCe BK374.out 1).trans rfl; have hcz65_2 : w62.cell? ⟨gb374, 2, none⟩ = some (.int .i64 0) := (bCe BK374.out 2).trans rfl; have hcz65_3 : w62.cell? ⟨gb374, 3, none⟩ = some (.string (⟨#[]⟩ : ByteArray)) := (bCe BK374.out 3).trans rfl; have hcz65_4 : w62.cell? ⟨gb374, 4, none⟩ = some (.slice none 0 0) := (bCe BK374.out 4).trans rfl; have hfz65_0 := bFz BK374.out 0; have hfz65_1 := bFz BK374.out 1; have hfz65_2 := bFz BK374.out 2; have hfz65_3 := bFz BK374.out 3; have hfz65_4 := bFz BK374.out 4))
                  refine bodyPost_ret (results_cell_row rfl _ _ gb374 64 #[.int .i64 a1_0, .string a1_1, .int .i64 a1_2, .string a1_3, .slice Ao60 y386.length co60] (0, 0) _ rfl (by (with_reducible repeat (first | refine bDn ?_ _ | refine bDr ?_ | refine bAl ?_ _)); refine bPu (cs := #[.int .i64 a1_0, .string a1_1, .int .i64 a1_2, .string a1_3, .slice none 0 0]) ?_ 4 _ rfl; (with_reducible repeat (first | refine bDn ?_ _ | refine bDr ?_ | refine bAl ?_ _)); refine bPu (cs := #[.int .i64 a1_0, .string a1_1, .int .i64 a1_2, .string (⟨#[]⟩ : ByteArray), .slice none 0 0]) ?_ 3 _ rfl; (with_reducible repeat (first | refine bDn ?_ _ | refine bDr ?_ | refine bAl ?_ _)); refine bPu (cs := #[.int .i64 a1_0, .string a1_1, .int .i64 0, .string (⟨#[]⟩ : ByteArray), .slice none 0 0]) ?_ 2 _ rfl; (with_reducible repeat (first | refine bDn ?_ _ | refine bDr ?_ | refine bAl ?_ _)); refine bPu (cs := #[.int .i64 a1_0, .string (⟨#[]⟩ : ByteArray), .int .i64 0, .string (⟨#[]⟩ : ByteArray), .slice none 0 0]) ?_ 1 _ rfl; (with_reducible repeat (first | refine bDn ?_ _ | refine bDr ?_ | refine bAl ?_ _)); refine bPu (cs := #[.int .i64 0, .string (⟨#[]⟩ : ByteArray), .int .i64 0, .string (⟨#[]⟩ : ByteArray), .slice none 0 0]) ?_ 0 _ rfl; (with_reducible repeat (first | refine bDn ?_ _ | refine bDr ?_ | refine bAl ?_ _)); refine bFr ?_ NB374_373.out _; (with_reducible repeat (first | refine bDn ?_ _ | refine bDr ?_ | refine bAl ?_ _)); exact BK374.out) Try.underlying64 rfl (by kernel_rfl)) rfl ?_
                  exact ⟨_, by first | rfl | (simp [eWn, eWs] <;> rfl) | (simp only [← hji52]; first | rfl | (simp [eWn, eWs] <;> rfl)) | (simp [*, eWn, eWs] <;> rfl), by (with_reducible repeat (first | apply Kd.R_alloc | apply Kd.R_drewN | apply Kd.R_drew)); exact Kd.R_mono (Kd.R_far (p := ⟨gb374, 4, none⟩) (Kd.R_far (p := ⟨gb374, 3, none⟩) (Kd.R_far (p := ⟨gb374, 2, none⟩) (Kd.R_far (p := ⟨gb374, 1, none⟩) (Kd.R_far (p := ⟨gb374, 0, none⟩) (Kd.R_far (p := ⟨gb373, 4, none⟩) (Kd.R_types (Kd.R_types HO388.out BK373.out (by decide)) BK374.out (by decide)) (fun _ hk => hk.1.2) (.slice Ao60 y386.length co60)) (fun _ hk => hk.2) (.int .i64 a1_0)) (fun _ hk => hk.2) (.string a1_1)) (fun _ hk => hk.2) (.int .i64 a1_2)) (fun _ hk => hk.2) (.string a1_3)) (fun _ hk => hk.2) (.slice Ao60 y386.length co60)) (fun _ hk => trivial), by repeat (first | (with_reducible first | exact HB.out | apply aBl | apply pBd | apply dBl | refine sBl ?_ GE373.out | refine sBl ?_ GE374.out) | exact HB.out)⟩
                · rw [if_neg c54] at H
                  exact absurd H (by simp)
              · rw [if_neg c53] at H
                exact absurd H (by simp)
            · rw [if_neg c51] at H
              have c51b0 : decide (0 < (t375.length : Int)) = false := decide_eq_false c51
              have c51b1 : decide (0 < t375.length) = false := decide_eq_false (by omega)
              clear c51
              simp only [Option.some.injEq, Prod.mk.injEq] at H
              obtain ⟨rfl, rfl, rfl, rfl, rfl⟩ := H
              go_enter Try.func44, Try.ntmps44
              go_wp2_with (first | ((with_reducible refine gDs (N := 3) rfl ?_); refine bEv ?hg (N := 3) ?hd (cs := #[.int .i64 a1_0, .string a1_1, .int .i64 a1_2, .string a1_3, .slice A1_4 l1_4.length c1_4]) (t := 64) ?hr ?_; (case hd => rfl); (case hg => rfl); (case hr => first | (go_simp; done) | (go_simp; rfl)); intro gb373 hg w66 hbox hb; have n0_ := AsZ.mk (tBl (by repeat (first | (with_reducible first | exact HB.out | apply aBl | apply pBd | apply dBl) | exact HB.out)) hb); have n1_ := AsZ.mk (hbox); have n2_ := AsZ.mk ((by rw [hg]; exact (zBl (by repeat (first | (with_reducible first | exact HB.out | apply aBl | apply pBd | apply dBl) | exact HB.out))) : w.heap.size ≤ gb373)); have n3_ := AsZ.mk ((by rw [hg]; exact (zBl (by repeat (first | (with_reducible first | exact HB.out | apply aBl | apply pBd | apply dBl) | exact HB.out))) : w.heap.size ≤ gb373)); clear HB; have HB := n0_; have BK373 := n1_; have GW373 := n2_; have GE373 := n3_; clear n0_ n1_ n2_ n3_; clear hb hbox hg) | ((with_reducible refine gDs (N := 4) rfl ?_); refine bEv ?hg (N := 4) ?hd (cs := #[.int .i64 0, .string (⟨#[]⟩ : ByteArray), .int .i64 0, .string (⟨#[]⟩ : ByteArray), .slice none 0 0]) (t := 64) ?hr ?_; (case hd => rfl); (case hg => rfl); (case hr => first | (go_simp; done) | (go_simp; rfl)); intro gb374 hg w67 hbox hb; have n0_ := AsZ.mk (bBl (g := gb373) (o := .cells #[.int .i64 a1_0, .string a1_1, .int .i64 a1_2, .string a1_3, .slice A1_4 l1_4.length c1_4] 64 (0, 0)) (by (with_reducible repeat (first | refine bDn ?_ _ | refine bDr ?_ | refine bAl ?_ _)); exact BK373.out) hb); have n1_ := AsZ.mk (tBl (by repeat (first | (with_reducible first | exact HB.out | apply aBl | apply pBd | apply dBl | refine sBl ?_ GE373.out) | exact HB.out)) hb); have n2_ := AsZ.mk (hbox); have n3_ := AsZ.mk ((by rw [hg]; exact (zBl (by repeat (first | (with_reducible first | exact HB.out | apply aBl | apply pBd | apply dBl | refine sBl ?_ GE373.out) | exact HB.out))) : w.heap.size ≤ gb374)); have n4_ := AsZ.mk ((by rw [hg]; exact (zBl (by repeat (first | (with_reducible first | exact HB.out | apply aBl | apply pBd | apply dBl | refine sBl ?_ GE373.out) | exact HB.out))) : w.heap.size ≤ gb374)); have n5_ := AsZ.mk ((by rw [hg]; exact Nat.ne_of_lt (bLt (g := gb373) (o := .cells #[.int .i64 a1_0, .string a1_1, .int .i64 a1_2, .string a1_3, .slice A1_4 l1_4.length c1_4] 64 (0, 0)) (by (with_reducible repeat (first | refine bDn ?_ _ | refine bDr ?_ | refine bAl ?_ _)); exact BK373.out)) : gb373 ≠ gb374)); have n6_ := AsZ.mk ((by rw [hg]; exact Nat.ne_of_gt (bLt (g := gb373) (o := .cells #[.int .i64 a1_0, .string a1_1, .int .i64 a1_2, .string a1_3, .slice A1_4 l1_4.length c1_4] 64 (0, 0)) (by (with_reducible repeat (first | refine bDn ?_ _ | refine bDr ?_ | refine bAl ?_ _)); exact BK373.out)) : gb374 ≠ gb373)); clear BK373; clear HB; have BK373 := n0_; have HB := n1_; have BK374 := n2_; have GW374 := n3_; have GE374 := n4_; have NB373_374 := n5_; have NB374_373 := n6_; clear n0_ n1_ n2_ n3_ n4_ n5_ n6_; clear hb hbox hg; have hnb68 := NB373_374.out; have hnc68 := NB374_373.out; have hcz69_0 : w67.cell? ⟨gb373, 0, none⟩ = some (.int .i64 a1_0) := (bCe BK373.out 0).trans rfl; have hcz69_1 : w67.cell? ⟨gb373, 1, none⟩ = some (.string a1_1) := (bCe BK373.out 1).trans rfl; have hcz69_2 : w67.cell? ⟨gb373, 2, none⟩ = some (.int .i64 a1_2) := (bCe BK373.out 2).trans rfl; have hcz69_3 : w67.cell? ⟨gb373, 3, none⟩ = some (.string a1_3) := (bCe BK373.out 3).trans rfl; have hcz69_4 : w67.cell? ⟨gb373, 4, none⟩ = some (.slice A1_4 l1_4.length c1_4) := (bCe BK373.out 4).trans rfl; have hfz69_0 := bFz BK373.out 0; have hfz69_1 := bFz BK373.out 1; have hfz69_2 := bFz BK373.out 2; have hfz69_3 := bFz BK373.out 3; have hfz69_4 := bFz BK373.out 4) | ((with_reducible refine gCa (f := 61) rfl ?_); refine gLl (some 7) rfl rfl Try.func61 (by kernel_rfl) rfl #[.slice A1_4 l1_4.length c1_4] rfl (by (try simp only [List.map_toArray, List.map_cons, List.map_nil]); first | done | rfl | (simp only [List.length_drop, List.length_take]; rfl)) ?_; (with_reducible refine (bytes_Clone.calls _ _ l1_4 t375 _ ?side1 ?side2 A3.out).mono ?_); (case side1 => repeat (first | exact (Kd.C_below HR1_4.out HB.out) | (with_reducible refine Kd.C_alloc ?_ _) | (with_reducible refine Kd.C_drewN ?_ _) | (with_reducible refine Kd.C_drew ?_))); (case side2 => exact HC1_4.out); rintro e w70 ⟨v376, rfl, ho0, hb⟩; refine ⟨_, rfl, ?_⟩; have n0_ := AsZ.mk (Kd.R_lower ho0 (zBl (by repeat (first | (with_reducible first | exact HB.out | apply aBl | apply pBd | apply dBl | refine sBl ?_ GE373.out | refine sBl ?_ GE374.out) | exact HB.out)))); have n1_ := AsZ.mk (bBl (g := gb373) (o := .cells #[.int .i64 a1_0, .string a1_1, .int .i64 a1_2, .string a1_3, .slice A1_4 l1_4.length c1_4] 64 (0, 0)) (by (with_reducible repeat (first | refine bDn ?_ _ | refine bDr ?_ | refine bAl ?_ _)); exact BK373.out) hb); have n2_ := AsZ.mk (bBl (g := gb374) (o := .cells #[.int .i64 0, .string (⟨#[]⟩ : ByteArray), .int .i64 0, .string (⟨#[]⟩ : ByteArray), .slice none 0 0] 64 (0, 0)) (by (with_reducible repeat (first | refine bDn ?_ _ | refine bDr ?_ | refine bAl ?_ _)); exact BK374.out) hb); have n3_ := AsZ.mk (tBl (by repeat (first | (with_reducible first | exact HB.out | apply aBl | apply pBd | apply dBl | refine sBl ?_ GE373.out | refine sBl ?_ GE374.out) | exact HB.out)) hb); clear BK373; clear BK374; clear HB; have HO377 := n0_; have BK373 := n1_; have BK374 := n2_; have HB := n3_; clear n0_ n1_ n2_ n3_; (try clear hb); (try clear hb2); (try clear hk); (try clear hi); (try clear ho0); obtain ⟨Ao71, co71, eo71⟩ := Kd.R_slice HO377.out; subst eo71; have hcz72_0 : w70.cell? ⟨gb373, 0, none⟩ = some (.int .i64 a1_0) := (bCe BK373.out 0).trans rfl; have hcz72_1 : w70.cell? ⟨gb373, 1, none⟩ = some (.string a1_1) := (bCe BK373.out 1).trans rfl; have hcz72_2 : w70.cell? ⟨gb373, 2, none⟩ = some (.int .i64 a1_2) := (bCe BK373.out 2).trans rfl; have hcz72_3 : w70.cell? ⟨gb373, 3, none⟩ = some (.string a1_3) := (bCe BK373.out 3).trans rfl; have hcz72_4 : w70.cell? ⟨gb373, 4, none⟩ = some (.slice A1_4 l1_4.length c1_4) := (bCe BK373.out 4).trans rfl; have hfz72_0 := bFz BK373.out 0; have hfz72_1 := bFz BK373.out 1; have hfz72_2 := bFz BK373.out 2; have hfz72_3 := bFz BK373.out 3; have hfz72_4 := bFz BK373.out 4; have hcz73_0 : w70.cell? ⟨gb374, 0, none⟩ = some (.int .i64 0) := (bCe BK374.out 0).trans rfl; have hcz73_1 : w70.cell? ⟨gb374, 1, none⟩ = some (.string (⟨#[]⟩ : ByteArray)) := (bCe BK374.out 1).trans rfl; have hcz73_2 : w70.cell? ⟨gb374, 2, none⟩ = some (.int .i64 0) := (bCe BK374.out 2).trans rfl; have hcz73_3 : w70.cell? ⟨gb374, 3, none⟩ = some (.string (⟨#[]⟩ : ByteArray)) := (bCe BK374.out 3).trans rfl; have hcz73_4 : w70.cell? ⟨gb374, 4, none⟩ = some (.slice none 0 0) := (bCe BK374.out 4).trans rfl; have hfz73_0 := bFz BK374.out 0; have hfz73_1 := bFz BK374.out 1; have hfz73_2 := bFz BK374.out 2; have hfz73_3 := bFz BK374.out 3; have hfz73_4 := bFz BK374.out 4))
              refine bodyPost_ret (results_cell_row rfl _ _ gb374 64 #[.int .i64 a1_0, .string a1_1, .int .i64 a1_2, .string a1_3, .slice Ao71 t375.length co71] (0, 0) _ rfl (by (with_reducible repeat (first | refine bDn ?_ _ | refine bDr ?_ | refine bAl ?_ _)); refine bPu (cs := #[.int .i64 a1_0, .string a1_1, .int .i64 a1_2, .string a1_3, .slice none 0 0]) ?_ 4 _ rfl; (with_reducible repeat (first | refine bDn ?_ _ | refine bDr ?_ | refine bAl ?_ _)); refine bPu (cs := #[.int .i64 a1_0, .string a1_1, .int .i64 a1_2, .string (⟨#[]⟩ : ByteArray), .slice none 0 0]) ?_ 3 _ rfl; (with_reducible repeat (first | refine bDn ?_ _ | refine bDr ?_ | refine bAl ?_ _)); refine bPu (cs := #[.int .i64 a1_0, .string a1_1, .int .i64 0, .string (⟨#[]⟩ : ByteArray), .slice none 0 0]) ?_ 2 _ rfl; (with_reducible repeat (first | refine bDn ?_ _ | refine bDr ?_ | refine bAl ?_ _)); refine bPu (cs := #[.int .i64 a1_0, .string (⟨#[]⟩ : ByteArray), .int .i64 0, .string (⟨#[]⟩ : ByteArray), .slice none 0 0]) ?_ 1 _ rfl; (with_reducible repeat (first | refine bDn ?_ _ | refine bDr ?_ | refine bAl ?_ _)); refine bPu (cs := #[.int .i64 0, .string (⟨#[]⟩ : ByteArray), .int .i64 0, .string (⟨#[]⟩ : ByteArray), .slice none 0 0]) ?_ 0 _ rfl; (with_reducible repeat (first | refine bDn ?_ _ | refine bDr ?_ | refine bAl ?_ _)); refine bFr ?_ NB374_373.out _; (with_reducible repeat (first | refine bDn ?_ _ | refine bDr ?_ | refine bAl ?_ _)); exact BK374.out) Try.underlying64 rfl (by kernel_rfl)) rfl ?_
              exact ⟨_, by first | rfl | (simp [eWn, eWs] <;> rfl) | (simp [*, eWn, eWs] <;> rfl), by (with_reducible repeat (first | apply Kd.R_alloc | apply Kd.R_drewN | apply Kd.R_drew)); exact Kd.R_mono (Kd.R_far (p := ⟨gb374, 4, none⟩) (Kd.R_far (p := ⟨gb374, 3, none⟩) (Kd.R_far (p := ⟨gb374, 2, none⟩) (Kd.R_far (p := ⟨gb374, 1, none⟩) (Kd.R_far (p := ⟨gb374, 0, none⟩) (Kd.R_far (p := ⟨gb373, 4, none⟩) (Kd.R_types (Kd.R_types HO377.out BK373.out (by decide)) BK374.out (by decide)) (fun _ hk => hk.1.2) (.slice Ao71 t375.length co71)) (fun _ hk => hk.2) (.int .i64 a1_0)) (fun _ hk => hk.2) (.string a1_1)) (fun _ hk => hk.2) (.int .i64 a1_2)) (fun _ hk => hk.2) (.string a1_3)) (fun _ hk => hk.2) (.slice Ao71 t375.length co71)) (fun _ hk => trivial), by repeat (first | (with_reducible first | exact HB.out | apply aBl | apply pBd | apply dBl | refine sBl ?_ GE373.out | refine sBl ?_ GE374.out) | exact HB.out)⟩
          · rw [if_neg c50] at H
            have c50b0 : (a0 == 2) = false := beq_eq_false_iff_ne.mpr c50
            have c50b1 : (a0 != 2) = true := bne_iff_ne.mpr c50
            simp only [Option.some.injEq, Prod.mk.injEq] at H
            obtain ⟨rfl, rfl, rfl, rfl, rfl⟩ := H
            go_enter Try.func44, Try.ntmps44
            go_wp2_with (first | ((with_reducible refine gDs (N := 3) rfl ?_); refine bEv ?hg (N := 3) ?hd (cs := #[.int .i64 a1_0, .string a1_1, .int .i64 a1_2, .string a1_3, .slice A1_4 l1_4.length c1_4]) (t := 64) ?hr ?_; (case hd => rfl); (case hg => rfl); (case hr => first | (go_simp; done) | (go_simp; rfl)); intro gb373 hg w74 hbox hb; have n0_ := AsZ.mk (tBl (by repeat (first | (with_reducible first | exact HB.out | apply aBl | apply pBd | apply dBl) | exact HB.out)) hb); have n1_ := AsZ.mk (hbox); have n2_ := AsZ.mk ((by rw [hg]; exact (zBl (by repeat (first | (with_reducible first | exact HB.out | apply aBl | apply pBd | apply dBl) | exact HB.out))) : w.heap.size ≤ gb373)); have n3_ := AsZ.mk ((by rw [hg]; exact (zBl (by repeat (first | (with_reducible first | exact HB.out | apply aBl | apply pBd | apply dBl) | exact HB.out))) : w.heap.size ≤ gb373)); clear HB; have HB := n0_; have BK373 := n1_; have GW373 := n2_; have GE373 := n3_; clear n0_ n1_ n2_ n3_; clear hb hbox hg) | ((with_reducible refine gDs (N := 4) rfl ?_); refine bEv ?hg (N := 4) ?hd (cs := #[.int .i64 0, .string (⟨#[]⟩ : ByteArray), .int .i64 0, .string (⟨#[]⟩ : ByteArray), .slice none 0 0]) (t := 64) ?hr ?_; (case hd => rfl); (case hg => rfl); (case hr => first | (go_simp; done) | (go_simp; rfl)); intro gb374 hg w75 hbox hb; have n0_ := AsZ.mk (bBl (g := gb373) (o := .cells #[.int .i64 a1_0, .string a1_1, .int .i64 a1_2, .string a1_3, .slice A1_4 l1_4.length c1_4] 64 (0, 0)) (by (with_reducible repeat (first | refine bDn ?_ _ | refine bDr ?_ | refine bAl ?_ _)); exact BK373.out) hb); have n1_ := AsZ.mk (tBl (by repeat (first | (with_reducible first | exact HB.out | apply aBl | apply pBd | apply dBl | refine sBl ?_ GE373.out) | exact HB.out)) hb); have n2_ := AsZ.mk (hbox); have n3_ := AsZ.mk ((by rw [hg]; exact (zBl (by repeat (first | (with_reducible first | exact HB.out | apply aBl | apply pBd | apply dBl | refine sBl ?_ GE373.out) | exact HB.out))) : w.heap.size ≤ gb374)); have n4_ := AsZ.mk ((by rw [hg]; exact (zBl (by repeat (first | (with_reducible first | exact HB.out | apply aBl | apply pBd | apply dBl | refine sBl ?_ GE373.out) | exact HB.out))) : w.heap.size ≤ gb374)); have n5_ := AsZ.mk ((by rw [hg]; exact Nat.ne_of_lt (bLt (g := gb373) (o := .cells #[.int .i64 a1_0, .string a1_1, .int .i64 a1_2, .string a1_3, .slice A1_4 l1_4.length c1_4] 64 (0, 0)) (by (with_reducible repeat (first | refine bDn ?_ _ | refine bDr ?_ | refine bAl ?_ _)); exact BK373.out)) : gb373 ≠ gb374)); have n6_ := AsZ.mk ((by rw [hg]; exact Nat.ne_of_gt (bLt (g := gb373) (o := .cells #[.int .i64 a1_0, .string a1_1, .int .i64 a1_2, .string a1_3, .slice A1_4 l1_4.length c1_4] 64 (0, 0)) (by (with_reducible repeat (first | refine bDn ?_ _ | refine bDr ?_ | refine bAl ?_ _)); exact BK373.out)) : gb374 ≠ gb373)); clear BK373; clear HB; have BK373 := n0_; have HB := n1_; have BK374 := n2_; have GW374 := n3_; have GE374 := n4_; have NB373_374 := n5_; have NB374_373 := n6_; clear n0_ n1_ n2_ n3_ n4_ n5_ n6_; clear hb hbox hg; have hnb76 := NB373_374.out; have hnc76 := NB374_373.out; have hcz77_0 : w75.cell? ⟨gb373, 0, none⟩ = some (.int .i64 a1_0) := (bCe BK373.out 0).trans rfl; have hcz77_1 : w75.cell? ⟨gb373, 1, none⟩ = some (.string a1_1) := (bCe BK373.out 1).trans rfl; have hcz77_2 : w75.cell? ⟨gb373, 2, none⟩ = some (.int .i64 a1_2) := (bCe BK373.out 2).trans rfl; have hcz77_3 : w75.cell? ⟨gb373, 3, none⟩ = some (.string a1_3) := (bCe BK373.out 3).trans rfl; have hcz77_4 : w75.cell? ⟨gb373, 4, none⟩ = some (.slice A1_4 l1_4.length c1_4) := (bCe BK373.out 4).trans rfl; have hfz77_0 := bFz BK373.out 0; have hfz77_1 := bFz BK373.out 1; have hfz77_2 := bFz BK373.out 2; have hfz77_3 := bFz BK373.out 3; have hfz77_4 := bFz BK373.out 4) | ((with_reducible refine gCa (f := 61) rfl ?_); refine gLl (some 7) rfl rfl Try.func61 (by kernel_rfl) rfl #[.slice A1_4 l1_4.length c1_4] rfl (by (try simp only [List.map_toArray, List.map_cons, List.map_nil]); first | done | rfl | (simp only [List.length_drop, List.length_take]; rfl)) ?_; (with_reducible refine (bytes_Clone.calls _ _ l1_4 t375 _ ?side1 ?side2 A3.out).mono ?_); (case side1 => repeat (first | exact (Kd.C_below HR1_4.out HB.out) | (with_reducible refine Kd.C_alloc ?_ _) | (with_reducible refine Kd.C_drewN ?_ _) | (with_reducible refine Kd.C_drew ?_))); (case side2 => exact HC1_4.out); rintro e w78 ⟨v376, rfl, ho0, hb⟩; refine ⟨_, rfl, ?_⟩; have n0_ := AsZ.mk (Kd.R_lower ho0 (zBl (by repeat (first | (with_reducible first | exact HB.out | apply aBl | apply pBd | apply dBl | refine sBl ?_ GE373.out | refine sBl ?_ GE374.out) | exact HB.out)))); have n1_ := AsZ.mk (bBl (g := gb373) (o := .cells #[.int .i64 a1_0, .string a1_1, .int .i64 a1_2, .string a1_3, .slice A1_4 l1_4.length c1_4] 64 (0, 0)) (by (with_reducible repeat (first | refine bDn ?_ _ | refine bDr ?_ | refine bAl ?_ _)); exact BK373.out) hb); have n2_ := AsZ.mk (bBl (g := gb374) (o := .cells #[.int .i64 0, .string (⟨#[]⟩ : ByteArray), .int .i64 0, .string (⟨#[]⟩ : ByteArray), .slice none 0 0] 64 (0, 0)) (by (with_reducible repeat (first | refine bDn ?_ _ | refine bDr ?_ | refine bAl ?_ _)); exact BK374.out) hb); have n3_ := AsZ.mk (tBl (by repeat (first | (with_reducible first | exact HB.out | apply aBl | apply pBd | apply dBl | refine sBl ?_ GE373.out | refine sBl ?_ GE374.out) | exact HB.out)) hb); clear BK373; clear BK374; clear HB; have HO377 := n0_; have BK373 := n1_; have BK374 := n2_; have HB := n3_; clear n0_ n1_ n2_ n3_; (try clear hb); (try clear hb2); (try clear hk); (try clear hi); (try clear ho0); obtain ⟨Ao79, co79, eo79⟩ := Kd.R_slice HO377.out; subst eo79; have hcz80_0 : w78.cell? ⟨gb373, 0, none⟩ = some (.int .i64 a1_0) := (bCe BK373.out 0).trans rfl; have hcz80_1 : w78.cell? ⟨gb373, 1, none⟩ = some (.string a1_1) := (bCe BK373.out 1).trans rfl; have hcz80_2 : w78.cell? ⟨gb373, 2, none⟩ = some (.int .i64 a1_2) := (bCe BK373.out 2).trans rfl; have hcz80_3 : w78.cell? ⟨gb373, 3, none⟩ = some (.string a1_3) := (bCe BK373.out 3).trans rfl; have hcz80_4 : w78.cell? ⟨gb373, 4, none⟩ = some (.slice A1_4 l1_4.length c1_4) := (bCe BK373.out 4).trans rfl; have hfz80_0 := bFz BK373.out 0; have hfz80_1 := bFz BK373.out 1; have hfz80_2 := bFz BK373.out 2; have hfz80_3 := bFz BK373.out 3; have hfz80_4 := bFz BK373.out 4; have hcz81_0 : w78.cell? ⟨gb374, 0, none⟩ = some (.int .i64 0) := (bCe BK374.out 0).trans rfl; have hcz81_1 : w78.cell? ⟨gb374, 1, none⟩ = some (.string (⟨#[]⟩ : ByteArray)) := (bCe BK374.out 1).trans rfl; have hcz81_2 : w78.cell? ⟨gb374, 2, none⟩ = some (.int .i64 0) := (bCe BK374.out 2).trans rfl; have hcz81_3 : w78.cell? ⟨gb374, 3, none⟩ = some (.string (⟨#[]⟩ : ByteArray)) := (bCe BK374.out 3).trans rfl; have hcz81_4 : w78.cell? ⟨gb374, 4, none⟩ = some (.slice none 0 0) := (bCe BK374.out 4).trans rfl; have hfz81_0 := bFz BK374.out 0; have hfz81_1 := bFz BK374.out 1; have hfz81_2 := bFz BK374.out 2; have hfz81_3 := bFz BK374.out 3; have hfz81_4 := bFz BK374.out 4))
            refine bodyPost_ret (results_cell_row rfl _ _ gb374 64 #[.int .i64 a1_0, .string a1_1, .int .i64 a1_2, .string a1_3, .slice Ao79 t375.length co79] (0, 0) _ rfl (by (with_reducible repeat (first | refine bDn ?_ _ | refine bDr ?_ | refine bAl ?_ _)); refine bPu (cs := #[.int .i64 a1_0, .string a1_1, .int .i64 a1_2, .string a1_3, .slice none 0 0]) ?_ 4 _ rfl; (with_reducible repeat (first | refine bDn ?_ _ | refine bDr ?_ | refine bAl ?_ _)); refine bPu (cs := #[.int .i64 a1_0, .string a1_1, .int .i64 a1_2, .string (⟨#[]⟩ : ByteArray), .slice none 0 0]) ?_ 3 _ rfl; (with_reducible repeat (first | refine bDn ?_ _ | refine bDr ?_ | refine bAl ?_ _)); refine bPu (cs := #[.int .i64 a1_0, .string a1_1, .int .i64 0, .string (⟨#[]⟩ : ByteArray), .slice none 0 0]) ?_ 2 _ rfl; (with_reducible repeat (first | refine bDn ?_ _ | refine bDr ?_ | refine bAl ?_ _)); refine bPu (cs := #[.int .i64 a1_0, .string (⟨#[]⟩ : ByteArray), .int .i64 0, .string (⟨#[]⟩ : ByteArray), .slice none 0 0]) ?_ 1 _ rfl; (with_reducible repeat (first | refine bDn ?_ _ | refine bDr ?_ | refine bAl ?_ _)); refine bPu (cs := #[.int .i64 0, .string (⟨#[]⟩ : ByteArray), .int .i64 0, .string (⟨#[]⟩ : ByteArray), .slice none 0 0]) ?_ 0 _ rfl; (with_reducible repeat (first | refine bDn ?_ _ | refine bDr ?_ | refine bAl ?_ _)); refine bFr ?_ NB374_373.out _; (with_reducible repeat (first | refine bDn ?_ _ | refine bDr ?_ | refine bAl ?_ _)); exact BK374.out) Try.underlying64 rfl (by kernel_rfl)) rfl ?_
            exact ⟨_, by first | rfl | (simp [eWn, eWs] <;> rfl) | (simp [*, eWn, eWs] <;> rfl), by (with_reducible repeat (first | apply Kd.R_alloc | apply Kd.R_drewN | apply Kd.R_drew)); exact Kd.R_mono (Kd.R_far (p := ⟨gb374, 4, none⟩) (Kd.R_far (p := ⟨gb374, 3, none⟩) (Kd.R_far (p := ⟨gb374, 2, none⟩) (Kd.R_far (p := ⟨gb374, 1, none⟩) (Kd.R_far (p := ⟨gb374, 0, none⟩) (Kd.R_far (p := ⟨gb373, 4, none⟩) (Kd.R_types (Kd.R_types HO377.out BK373.out (by decide)) BK374.out (by decide)) (fun _ hk => hk.1.2) (.slice Ao79 t375.length co79)) (fun _ hk => hk.2) (.int .i64 a1_0)) (fun _ hk => hk.2) (.string a1_1)) (fun _ hk => hk.2) (.int .i64 a1_2)) (fun _ hk => hk.2) (.string a1_3)) (fun _ hk => hk.2) (.slice Ao79 t375.length co79)) (fun _ hk => trivial), by repeat (first | (with_reducible first | exact HB.out | apply aBl | apply pBd | apply dBl | refine sBl ?_ GE373.out | refine sBl ?_ GE374.out) | exact HB.out)⟩
def r1Cut.l0 : Nat → ByteArray → Int → Int → Option (ByteArray × ByteArray × Bool)
  | 0, _, _, _ => none
  | k + 1, x0, x1, x7 => if x7 < (x0.size : Int) then (if 0 ≤ x7 then (if (bt x0 x7) = x1 then (if x7 ≤ (x0.size : Int) then (if 0 ≤ (wrap64 (x7 + 1)) then (if (wrap64 (x7 + 1)) ≤ (x0.size : Int) then (some (x0.extract 0 (x7 : Int).toNat, x0.extract ((wrap64 (x7 + 1)) : Int).toNat x0.size, true)) else (none)) else (none)) else (none)) else (r1Cut.l0 k x0 x1 (wrap64 (x7 + 1)))) else (none)) else (some (x0, (⟨#[]⟩ : ByteArray), false))
def r1Cut.f (k : Nat) (a0 : ByteArray) (a1 : Int) : Option (ByteArray × ByteArray × Bool) := r1Cut.l0 k a0 a1 0
theorem r1Cut.mono_l : ∀ k, (∀ y0 y1 y2, LeO (r1Cut.l0 k y0 y1 y2) (r1Cut.l0 (k + 1) y0 y1 y2))
  | 0 => fun _ _ _ r h => by simp [r1Cut.l0] at h
  | k + 1 => by
    have ih0 := r1Cut.mono_l k
    · intro y0 y1 y2
      unfold r1Cut.l0
      repeat' first
      | (with_reducible exact ih0 _ _ _)
      | (with_reducible exact LeO.refl _)
      | (with_reducible exact LeO.none _)
      | (with_reducible refine LeO.ite ?_ ?_)
      | (with_reducible refine LeO.bind ?_ (fun _ => ?_))
      | exact ih0 _ _ _
      | exact LeO.none _
      | refine LeO.ite ?_ ?_
      | refine LeO.bind ?_ (fun _ => ?_)
theorem r1Cut.mono : ∀ a0 a1 k, LeO (r1Cut.f k a0 a1) (r1Cut.f (k + 1) a0 a1) := by
  intro a0 a1 k
  have ih0 := r1Cut.mono_l k
  unfold r1Cut.f
  repeat' first
      | (with_reducible exact ih0 _ _ _)
      | (with_reducible exact LeO.refl _)
      | (with_reducible exact LeO.none _)
      | (with_reducible refine LeO.ite ?_ ?_)
      | (with_reducible refine LeO.bind ?_ (fun _ => ?_))
      | exact ih0 _ _ _
      | exact LeO.none _
      | refine LeO.ite ?_ ?_
      | refine LeO.bind ?_ (fun _ => ?_)
set_option maxHeartbeats 8000000 in
set_option maxRecDepth 100000 in
theorem r1Cut.calls (k : Nat) (a0 : ByteArray) (a1 : Int) (r1 : ByteArray) (r2 : ByteArray) (r3 : Bool) (w : World) (h : r1Cut.f k a0 a1 = some (r1, r2, r3)) :
    Calls Try.prog 76 #[.string a0, .int .u8 a1] w fun e w' => e = .returned (.tuple #[.string r1, .string r2, .bool r3]) ∧ Drawn0 w w' := by
  have H : (r1Cut.l0 k a0 a1 0) = some (r1, r2, r3) := h
  clear h
  have H' := AsZ.mk H
  clear H
  go_enter Try.func76, Try.ntmps76
  go_wp2
  repeat (go_quiet (fail); try go_wp2)
  go_loopg [7] k (fun kq v7 w' => ∃ (x7_1 : Int), v7 = .int .i64 x7_1 ∧ AsZ (r1Cut.l0 kq a0 a1 x7_1 = some (r1, r2, r3)) ∧ AsZ (kq ≤ k) ∧ Drawn0 w w')
  case atStart => exact ⟨(0), (by first | rfl | (simp; done) | (simp [*]; done)), H', ⟨Nat.le_refl _⟩, by repeat (first | exact Drawn0.refl _ | apply Drawn0.step)⟩
  case round =>
    clear H'
    try clear p2
    obtain ⟨x7_1, rfl, HA, HK1, ⟨m1, rfl⟩⟩ := hrel
    cases gk with
    | zero => exact absurd HA.out (by simp [r1Cut.l0])
    | succ k1 =>
      have H := HA.out
      clear HA
      simp only [r1Cut.l0] at H
      by_cases c3 : x7_1 < (a0.size : Int)
      · rw [if_pos c3] at H
        have c3b0 : decide (x7_1 < (a0.size : Int)) = true := decide_eq_true c3
        clear c3
        by_cases c4 : 0 ≤ x7_1
        · rw [if_pos c4] at H
          have c4b0 : decide (0 ≤ x7_1) = true := decide_eq_true c4
          clear c4
          by_cases c6 : (bt a0 x7_1) = a1
          · rw [if_pos c6] at H
            have c6b0 : ((bt a0 x7_1) == a1) = true := beq_iff_eq.mpr c6
            have c6b1 : ((bt a0 x7_1) != a1) = false := bne_eq_false_iff_eq.mpr c6
            clear c6
            have c7b0 := eq_true (of_decide_eq_true (by first | (with_reducible assumption) | assumption) : 0 ≤ x7_1)
            by_cases c8 : x7_1 ≤ (a0.size : Int)
            · rw [if_pos c8] at H
              have c8b0 := eq_true c8
              have c8b1 : decide (x7_1 ≤ (a0.size : Int)) = true := decide_eq_true c8
              clear c8
              obtain ⟨ji9, hji9⟩ : ∃ j_ : Int, (wrap64 (x7_1 + 1)) = j_ := ⟨_, rfl⟩
              replace H : (if 0 ≤ (ji9) then (if (ji9) ≤ (a0.size : Int) then (some (a0.extract 0 (x7_1 : Int).toNat, a0.extract ((ji9) : Int).toNat a0.size, true)) else (none)) else (none)) = some (r1, r2, r3) := by first | (rw [hji9] at H; exact H) | (simp only [hji9] at H ⊢; exact H)
              have hji9w : (IntKind.i64.wrap (x7_1 + 1)) = ji9 := (i64_w _).trans hji9
              by_cases c10 : 0 ≤ (ji9)
              · rw [if_pos c10] at H
                have c10b0 := eq_true c10
                have c10b1 : decide (0 ≤ (ji9)) = true := decide_eq_true c10
                clear c10
                by_cases c11 : (ji9) ≤ (a0.size : Int)
                · rw [if_pos c11] at H
                  have c11b0 := eq_true c11
                  have c11b1 : decide ((ji9) ≤ (a0.size : Int)) = true := decide_eq_true c11
                  clear c11
                  simp only [Option.some.injEq, Prod.mk.injEq] at H
                  obtain ⟨rfl, rfl, rfl⟩ := H
                  have p5 : 0 ≤ (x7_1 : Int) := of_decide_eq_true (by first | (with_reducible assumption) | assumption)
                  have q5 : x7_1 < (a0.size : Int) := of_decide_eq_true (by first | (with_reducible assumption) | assumption)
                  have hx5 := bt_at a0 x7_1
                  replace p5 := eq_true p5
                  replace q5 := eq_true q5
                  go_wp2
                  repeat (go_quiet (fail); try go_wp2)
                  go_ret3
                  exact ⟨by first | rfl | (simp; done) | (simp only [← hji9] <;> (first | rfl | simp)) | (simp [*]; done), by repeat (first | exact Drawn0.refl _ | apply Drawn0.step)⟩
                · rw [if_neg c11] at H
                  exact absurd H (by simp)
              · rw [if_neg c10] at H
                exact absurd H (by simp)
            · rw [if_neg c8] at H
              exact absurd H (by simp)
          · rw [if_neg c6] at H
            have c6b0 : ((bt a0 x7_1) == a1) = false := beq_eq_false_iff_ne.mpr c6
            have c6b1 : ((bt a0 x7_1) != a1) = true := bne_iff_ne.mpr c6
            have H' := AsZ.mk H
            clear H
            have p5 : 0 ≤ (x7_1 : Int) := of_decide_eq_true (by first | (with_reducible assumption) | assumption)
            have q5 : x7_1 < (a0.size : Int) := of_decide_eq_true (by first | (with_reducible assumption) | assumption)
            have hx5 := bt_at a0 x7_1
            replace p5 := eq_true p5
            replace q5 := eq_true q5
            go_wp2
            repeat (go_quiet (fail); try go_wp2)
            go_roundg k1
            case measure => have := HK1.out; omega
            case rel => exact ⟨(wrap64 (x7_1 + 1)), (by first | rfl | (simp; done) | (simp [*]; done)), H', ⟨by have := HK1.out; omega⟩, by repeat (first | exact Drawn0.refl _ | apply Drawn0.step)⟩
        · rw [if_neg c4] at H
          exact absurd H (by simp)
      · rw [if_neg c3] at H
        have c3b0 : decide (x7_1 < (a0.size : Int)) = false := decide_eq_false c3
        clear c3
        simp only [Option.some.injEq, Prod.mk.injEq] at H
        obtain ⟨rfl, rfl, rfl⟩ := H
        go_wp2
        repeat (go_quiet (fail); try go_wp2)
        go_ret3
        exact ⟨by first | rfl | (simp; done) | (simp [*]; done) | exact nEm _ | exact eEm _, by repeat (first | exact Drawn0.refl _ | apply Drawn0.step)⟩
def r1Low.l0 : Nat → ByteArray → ByteArray → Int → Option (ByteArray)
  | 0, _, _, _ => none
  | k + 1, x0, x3, x4 => if x4 < (x0.size : Int) then (if 0 ≤ x4 then (if (bt x0 x4) ≥ 65 then (if (bt x0 x4) ≤ 90 then ((some (([((bt x0 x4) + 32) % 256] : List Int) : List Int)).bind fun y396 => (if x3.size + ((strOfNums y396).size) ≤ 9223372036854775807 then (r1Low.l0 k x0 (x3 ++ (strOfNums y396)) (wrap64 (x4 + 1))) else (none))) else ((some (([bt x0 x4] : List Int) : List Int)).bind fun y399 => (if x3.size + ((strOfNums y399).size) ≤ 9223372036854775807 then (r1Low.l0 k x0 (x3 ++ (strOfNums y399)) (wrap64 (x4 + 1))) else (none)))) else ((some (([bt x0 x4] : List Int) : List Int)).bind fun y402 => (if x3.size + ((strOfNums y402).size) ≤ 9223372036854775807 then (r1Low.l0 k x0 (x3 ++ (strOfNums y402)) (wrap64 (x4 + 1))) else (none)))) else (none)) else (some x3)
def r1Low.f (k : Nat) (a0 : ByteArray) : Option (ByteArray) := r1Low.l0 k a0 (⟨#[]⟩ : ByteArray) 0
theorem r1Low.mono_l : ∀ k, (∀ y0 y1 y2, LeO (r1Low.l0 k y0 y1 y2) (r1Low.l0 (k + 1) y0 y1 y2))
  | 0 => fun _ _ _ r h => by simp [r1Low.l0] at h
  | k + 1 => by
    have ih0 := r1Low.mono_l k
    · intro y0 y1 y2
      unfold r1Low.l0
      repeat' first
      | (with_reducible exact ih0 _ _ _)
      | (with_reducible exact LeO.refl _)
      | (with_reducible exact LeO.none _)
      | (with_reducible refine LeO.ite ?_ ?_)
      | (with_reducible refine LeO.bind ?_ (fun _ => ?_))
      | exact ih0 _ _ _
      | exact LeO.none _
      | refine LeO.ite ?_ ?_
      | refine LeO.bind ?_ (fun _ => ?_)
theorem r1Low.mono : ∀ a0 k, LeO (r1Low.f k a0) (r1Low.f (k + 1) a0) := by
  intro a0 k
  have ih0 := r1Low.mono_l k
  unfold r1Low.f
  repeat' first
      | (with_reducible exact ih0 _ _ _)
      | (with_reducible exact LeO.refl _)
      | (with_reducible exact LeO.none _)
      | (with_reducible refine LeO.ite ?_ ?_)
      | (with_reducible refine LeO.bind ?_ (fun _ => ?_))
      | exact ih0 _ _ _
      | exact LeO.none _
      | refine LeO.ite ?_ ?_
      | refine LeO.bind ?_ (fun _ => ?_)
set_option maxHeartbeats 8000000 in
set_option maxRecDepth 100000 in
theorem r1Low.calls (k : Nat) (a0 : ByteArray) (r : ByteArray) (w : World) (h : r1Low.f k a0 = some r) :
    Calls Try.prog 77 #[.string a0] w fun e w' => e = .returned (.string r) ∧ Below w.heap.size w w' := by
  have HB := AsZ.mk (Below.refl w.heap.size w)
  have H : (r1Low.l0 k a0 (⟨#[]⟩ : ByteArray) 0) = some r := h
  clear h
  have H' := AsZ.mk H
  clear H
  go_enter Try.func77, Try.ntmps77
  go_wp2
  go_loopg [3, 4] k (fun kq v3 v4 w' => ∃ (x3_1 : ByteArray) (x4_1 : Int), v3 = .string x3_1 ∧ v4 = .int .i64 x4_1 ∧ AsZ (r1Low.l0 kq a0 x3_1 x4_1 = some r) ∧ AsZ (kq ≤ k) ∧ AsZ (Below w.heap.size w w'))
  case atStart => exact ⟨((⟨#[]⟩ : ByteArray)), (0), (by first | rfl | (simp; done) | (simp [*]; done)), (by first | rfl | (simp; done) | (simp [*]; done)), H', ⟨Nat.le_refl _⟩, ⟨by repeat (first | (with_reducible first | exact HB.out | apply aBl | apply pBd | apply dBl) | exact HB.out)⟩⟩
  case round =>
    clear H'
    obtain ⟨x3_1, x4_1, rfl, rfl, HA, HK1, HB⟩ := hrel
    cases gk with
    | zero => exact absurd HA.out (by simp [r1Low.l0])
    | succ k1 =>
      have H := HA.out
      clear HA
      simp only [r1Low.l0] at H
      by_cases c2 : x4_1 < (a0.size : Int)
      · rw [if_pos c2] at H
        have c2b0 : decide (x4_1 < (a0.size : Int)) = true := decide_eq_true c2
        clear c2
        by_cases c3 : 0 ≤ x4_1
        · rw [if_pos c3] at H
          have c3b0 : decide (0 ≤ x4_1) = true := decide_eq_true c3
          clear c3
          by_cases c5 : (bt a0 x4_1) ≥ 65
          · rw [if_pos c5] at H
            have c5b0 : decide (65 ≤ (bt a0 x4_1)) = true := decide_eq_true c5
            clear c5
            by_cases c6 : (bt a0 x4_1) ≤ 90
            · rw [if_pos c6] at H
              have c6b0 : decide ((bt a0 x4_1) ≤ 90) = true := decide_eq_true c6
              clear c6
              obtain ⟨y396, hy396⟩ : ∃ y_ : List Int, y_ = (([((bt a0 x4_1) + 32) % 256] : List Int)) := ⟨_, rfl⟩
              replace H : (if x3_1.size + ((strOfNums y396).size) ≤ 9223372036854775807 then (r1Low.l0 k1 a0 (x3_1 ++ (strOfNums y396)) (wrap64 (x4_1 + 1))) else (none)) = some r := by first | (rw [hy396]; with_reducible exact H) | (have H2_ := (Option.bind_some _ _).symm.trans H; rw [hy396]; with_reducible exact H2_) | (have H2_ := (Option.bind_some _ _).symm.trans H; with_reducible exact H2_) | with_reducible exact H | (rw [hy396]; exact H) | exact H
              have Ny396 := AsZ.mk hy396
              clear hy396
              by_cases c7 : x3_1.size + ((strOfNums y396).size) ≤ 9223372036854775807
              · rw [if_pos c7] at H
                have c7b0 := eq_true c7
                have c7b1 : decide (x3_1.size + ((strOfNums y396).size) ≤ 9223372036854775807) = true := decide_eq_true c7
                try have c7b2 : (9223372036854775807 < x3_1.size + ((strOfNums y396).size)) = False := eq_false (Nat.not_lt.2 c7)
                have H' := AsZ.mk H
                clear H
                have p4 : 0 ≤ (x4_1 : Int) := of_decide_eq_true (by first | (with_reducible assumption) | assumption)
                have q4 : x4_1 < (a0.size : Int) := of_decide_eq_true (by first | (with_reducible assumption) | assumption)
                have hx4 := bt_at a0 x4_1
                replace p4 := eq_true p4
                replace q4 := eq_true q4
                go_wp2_with (first | ((with_reducible refine gDs (N := 25) rfl ?_); refine Kd.R_lit (Kd.int .u8) _ 5 ?hg (N := 25) ?hd (xs := ([((bt a0 x4_1) + 32) % 256] : List Int)) (inner := [.int .u8 (((bt a0 x4_1) + 32) % 256)]) (ok := fun _ => True) (okp := fun _ => True) ?hr ?hp (fun _ hk => hk) trivial (Below.refl _ _) (Nat.le_refl _) (by simp) ?_; (case hd => rfl); (case hg => rfl); (case hr => first | (go_simp; done) | (go_simp; rfl)); (case hp => exact (Reps.one (show Kd.M (Kd.int .u8) _ _ _ (((bt a0 x4_1) + 32) % 256) [.int .u8 (((bt a0 x4_1) + 32) % 256)] from rfl) (Reps.none _ _))); intro v397 w8 ho9 hb hg_ hnew_; clear hg_ hnew_; (first | rw [← Ny396.out] at ho9 | (simp only [Int.reduceToNat] at ho9; rw [← Ny396.out] at ho9)); have n0_ := AsZ.mk (Kd.R_lower ho9 (zBl (by repeat (first | (with_reducible first | exact HB.out | apply aBl | apply pBd | apply dBl) | exact HB.out)))); have n1_ := AsZ.mk (tBl (by repeat (first | (with_reducible first | exact HB.out | apply aBl | apply pBd | apply dBl) | exact HB.out)) hb); clear HB; have HO398 := n0_; have HB := n1_; clear n0_ n1_; clear hb ho9; have hcv10 := own_string (P := Try.prog) Try.underlying32 Try.underlying5 Try.underlying9 (Kd.own_of_R HO398.out)))
                go_roundg k1
                case measure => have := HK1.out; omega
                case rel => exact ⟨(x3_1 ++ (strOfNums y396)), (wrap64 (x4_1 + 1)), (by first | rfl | (simp; done) | (simp [*]; done)), (by first | rfl | (simp; done) | (simp [*]; done)), H', ⟨by have := HK1.out; omega⟩, ⟨by repeat (first | (with_reducible first | exact HB.out | apply aBl | apply pBd | apply dBl) | exact HB.out)⟩⟩
              · rw [if_neg c7] at H
                exact absurd H (by simp)
            · rw [if_neg c6] at H
              have c6b0 : decide ((bt a0 x4_1) ≤ 90) = false := decide_eq_false c6
              clear c6
              obtain ⟨y399, hy399⟩ : ∃ y_ : List Int, y_ = (([bt a0 x4_1] : List Int)) := ⟨_, rfl⟩
              replace H : (if x3_1.size + ((strOfNums y399).size) ≤ 9223372036854775807 then (r1Low.l0 k1 a0 (x3_1 ++ (strOfNums y399)) (wrap64 (x4_1 + 1))) else (none)) = some r := by first | (rw [hy399]; with_reducible exact H) | (have H2_ := (Option.bind_some _ _).symm.trans H; rw [hy399]; with_reducible exact H2_) | (have H2_ := (Option.bind_some _ _).symm.trans H; with_reducible exact H2_) | with_reducible exact H | (rw [hy399]; exact H) | exact H
              have Ny399 := AsZ.mk hy399
              clear hy399
              by_cases c11 : x3_1.size + ((strOfNums y399).size) ≤ 9223372036854775807
              · rw [if_pos c11] at H
                have c11b0 := eq_true c11
                have c11b1 : decide (x3_1.size + ((strOfNums y399).size) ≤ 9223372036854775807) = true := decide_eq_true c11
                try have c11b2 : (9223372036854775807 < x3_1.size + ((strOfNums y399).size)) = False := eq_false (Nat.not_lt.2 c11)
                have H' := AsZ.mk H
                clear H
                have p4 : 0 ≤ (x4_1 : Int) := of_decide_eq_true (by first | (with_reducible assumption) | assumption)
                have q4 : x4_1 < (a0.size : Int) := of_decide_eq_true (by first | (with_reducible assumption) | assumption)
                have hx4 := bt_at a0 x4_1
                replace p4 := eq_true p4
                replace q4 := eq_true q4
                go_wp2_with (first | ((with_reducible refine gDs (N := 25) rfl ?_); refine Kd.R_lit (Kd.int .u8) _ 5 ?hg (N := 25) ?hd (xs := ([bt a0 x4_1] : List Int)) (inner := [.int .u8 (bt a0 x4_1)]) (ok := fun _ => True) (okp := fun _ => True) ?hr ?hp (fun _ hk => hk) trivial (Below.refl _ _) (Nat.le_refl _) (by simp) ?_; (case hd => rfl); (case hg => rfl); (case hr => first | (go_simp; done) | (go_simp; rfl)); (case hp => exact (Reps.one (show Kd.M (Kd.int .u8) _ _ _ (bt a0 x4_1) [.int .u8 (bt a0 x4_1)] from rfl) (Reps.none _ _))); intro v400 w12 ho13 hb hg_ hnew_; clear hg_ hnew_; (first | rw [← Ny399.out] at ho13 | (simp only [Int.reduceToNat] at ho13; rw [← Ny399.out] at ho13)); have n0_ := AsZ.mk (Kd.R_lower ho13 (zBl (by repeat (first | (with_reducible first | exact HB.out | apply aBl | apply pBd | apply dBl) | exact HB.out)))); have n1_ := AsZ.mk (tBl (by repeat (first | (with_reducible first | exact HB.out | apply aBl | apply pBd | apply dBl) | exact HB.out)) hb); clear HB; have HO401 := n0_; have HB := n1_; clear n0_ n1_; clear hb ho13; have hcv14 := own_string (P := Try.prog) Try.underlying32 Try.underlying5 Try.underlying9 (Kd.own_of_R HO401.out)))
                go_roundg k1
                case measure => have := HK1.out; omega
                case rel => exact ⟨(x3_1 ++ (strOfNums y399)), (wrap64 (x4_1 + 1)), (by first | rfl | (simp; done) | (simp [*]; done)), (by first | rfl | (simp; done) | (simp [*]; done)), H', ⟨by have := HK1.out; omega⟩, ⟨by repeat (first | (with_reducible first | exact HB.out | apply aBl | apply pBd | apply dBl) | exact HB.out)⟩⟩
              · rw [if_neg c11] at H
                exact absurd H (by simp)
          · rw [if_neg c5] at H
            have c5b0 : decide (65 ≤ (bt a0 x4_1)) = false := decide_eq_false c5
            clear c5
            obtain ⟨y402, hy402⟩ : ∃ y_ : List Int, y_ = (([bt a0 x4_1] : List Int)) := ⟨_, rfl⟩
            replace H : (if x3_1.size + ((strOfNums y402).size) ≤ 9223372036854775807 then (r1Low.l0 k1 a0 (x3_1 ++ (strOfNums y402)) (wrap64 (x4_1 + 1))) else (none)) = some r := by first | (rw [hy402]; with_reducible exact H) | (have H2_ := (Option.bind_some _ _).symm.trans H; rw [hy402]; with_reducible exact H2_) | (have H2_ := (Option.bind_some _ _).symm.trans H; with_reducible exact H2_) | with_reducible exact H | (rw [hy402]; exact H) | exact H
            have Ny402 := AsZ.mk hy402
            clear hy402
            by_cases c15 : x3_1.size + ((strOfNums y402).size) ≤ 9223372036854775807
            · rw [if_pos c15] at H
              have c15b0 := eq_true c15
              have c15b1 : decide (x3_1.size + ((strOfNums y402).size) ≤ 9223372036854775807) = true := decide_eq_true c15
              try have c15b2 : (9223372036854775807 < x3_1.size + ((strOfNums y402).size)) = False := eq_false (Nat.not_lt.2 c15)
              have H' := AsZ.mk H
              clear H
              have p4 : 0 ≤ (x4_1 : Int) := of_decide_eq_true (by first | (with_reducible assumption) | assumption)
              have q4 : x4_1 < (a0.size : Int) := of_decide_eq_true (by first | (with_reducible assumption) | assumption)
              have hx4 := bt_at a0 x4_1
              replace p4 := eq_true p4
              replace q4 := eq_true q4
              go_wp2_with (first | ((with_reducible refine gDs (N := 25) rfl ?_); refine Kd.R_lit (Kd.int .u8) _ 5 ?hg (N := 25) ?hd (xs := ([bt a0 x4_1] : List Int)) (inner := [.int .u8 (bt a0 x4_1)]) (ok := fun _ => True) (okp := fun _ => True) ?hr ?hp (fun _ hk => hk) trivial (Below.refl _ _) (Nat.le_refl _) (by simp) ?_; (case hd => rfl); (case hg => rfl); (case hr => first | (go_simp; done) | (go_simp; rfl)); (case hp => exact (Reps.one (show Kd.M (Kd.int .u8) _ _ _ (bt a0 x4_1) [.int .u8 (bt a0 x4_1)] from rfl) (Reps.none _ _))); intro v403 w16 ho17 hb hg_ hnew_; clear hg_ hnew_; (first | rw [← Ny402.out] at ho17 | (simp only [Int.reduceToNat] at ho17; rw [← Ny402.out] at ho17)); have n0_ := AsZ.mk (Kd.R_lower ho17 (zBl (by repeat (first | (with_reducible first | exact HB.out | apply aBl | apply pBd | apply dBl) | exact HB.out)))); have n1_ := AsZ.mk (tBl (by repeat (first | (with_reducible first | exact HB.out | apply aBl | apply pBd | apply dBl) | exact HB.out)) hb); clear HB; have HO404 := n0_; have HB := n1_; clear n0_ n1_; clear hb ho17; have hcv18 := own_string (P := Try.prog) Try.underlying32 Try.underlying5 Try.underlying9 (Kd.own_of_R HO404.out)))
              go_roundg k1
              case measure => have := HK1.out; omega
              case rel => exact ⟨(x3_1 ++ (strOfNums y402)), (wrap64 (x4_1 + 1)), (by first | rfl | (simp; done) | (simp [*]; done)), (by first | rfl | (simp; done) | (simp [*]; done)), H', ⟨by have := HK1.out; omega⟩, ⟨by repeat (first | (with_reducible first | exact HB.out | apply aBl | apply pBd | apply dBl) | exact HB.out)⟩⟩
            · rw [if_neg c15] at H
              exact absurd H (by simp)
        · rw [if_neg c3] at H
          exact absurd H (by simp)
      · rw [if_neg c2] at H
        have c2b0 : decide (x4_1 < (a0.size : Int)) = false := decide_eq_false c2
        clear c2
        obtain rfl := Option.some.inj H
        go_wp2
        go_ret
        exact ⟨by first | rfl | exact nEm _ | exact eEm _ | (simp [eWn, eWs] <;> rfl) | (simp [*, eWn, eWs] <;> rfl), by repeat (first | (with_reducible first | exact HB.out | apply aBl | apply pBd | apply dBl) | exact HB.out)⟩
def spenceref01_Digit.f (a0 : Int) : Option (Bool) := if a0 ≥ 48 then (some (decide (a0 ≤ 57))) else (some false)
set_option maxHeartbeats 8000000 in
set_option maxRecDepth 100000 in
theorem spenceref01_Digit.calls (a0 : Int) (r : Bool) (w : World) (h : spenceref01_Digit.f a0 = some r) :
    Calls Try.prog 82 #[.int .u8 a0] w fun e w' => e = .returned (.bool r) ∧ Drawn0 w w' := by
  have H : (if a0 ≥ 48 then (some (decide (a0 ≤ 57))) else (some false)) = some r := h
  clear h
  by_cases c2 : a0 ≥ 48
  · rw [if_pos c2] at H
    have c2b0 : decide (48 ≤ a0) = true := decide_eq_true c2
    clear c2
    obtain rfl := Option.some.inj H
    go_enter Try.func82, Try.ntmps82
    go_wp2
    go_ret
    exact ⟨by first | rfl | (simp; done) | (simp [*]; done) | exact nEm _ | exact eEm _, by repeat (first | exact Drawn0.refl _ | apply Drawn0.step)⟩
  · rw [if_neg c2] at H
    have c2b0 : decide (48 ≤ a0) = false := decide_eq_false c2
    clear c2
    obtain rfl := Option.some.inj H
    go_enter Try.func82, Try.ntmps82
    go_wp2
    go_ret
    exact ⟨by first | rfl | (simp; done) | (simp [*]; done) | exact nEm _ | exact eEm _, by repeat (first | exact Drawn0.refl _ | apply Drawn0.step)⟩
end Go.Proofs.Ytfcengffgkmacaa.PAll
namespace Go.Proofs.Ytfcengffgkmacaa.PAll
open Go.RowKit Go.Proofs.Ytfcengffgkmacaa.Xw Go.Proofs.YtfcengffgkmacaaW.PrintWords Go.Proofs.YtfcengffgkmacaaW.PrintLast Go.Proofs.YtfcengffgkmacaaW.PrintMore
attribute [local go_sem] max2_int min2_int max_two min_two max_three min_three max_four min_four   -- for this text's walks alone
set_option linter.unusedVariables false
set_option linter.unusedSimpArgs false
mutual
def r1Pars.l0 : Nat → ByteArray → Int → Option (Int × Int)
  | 0, _, _ => none
  | k + 1, x0, x4 => if x4 < (x0.size : Int) then (if 0 ≤ x4 then ((spenceref01_Digit.f (bt x0 x4)).bind fun t405 => (if t405 = true then (r1Pars.l0 k x0 (wrap64 (x4 + 1))) else (some (0, 3)))) else (none)) else (r1Pars.l1 k x0 0)
def r1Pars.j2 : Nat → ByteArray → Int → Option (Int × Int)
  | 0, _, _ => none
  | k + 1, x0, x5 => if 0 ≤ x5 then (if x5 ≤ (x0.size : Int) then (if ((x0.extract (x5 : Int).toNat x0.size).size : Int) > 19 then (r1Pars.j3 k (x0.extract (x5 : Int).toNat x0.size) true) else (if ((x0.extract (x5 : Int).toNat x0.size).size : Int) = 19 then (r1Pars.j3 k (x0.extract (x5 : Int).toNat x0.size) (!(Op.bytesLess ((x0.extract (x5 : Int).toNat x0.size).toList) ([52, 54, 49, 49, 54, 56, 54, 48, 49, 56, 52, 50, 55, 51, 56, 55, 57, 48, 51] : List UInt8) || ((x0.extract (x5 : Int).toNat x0.size).toList) == ([52, 54, 49, 49, 54, 56, 54, 48, 49, 56, 52, 50, 55, 51, 56, 55, 57, 48, 51] : List UInt8)))) else (r1Pars.j3 k (x0.extract (x5 : Int).toNat x0.size) false))) else (none)) else (none)
def r1Pars.j3 : Nat → ByteArray → Bool → Option (Int × Int)
  | 0, _, _ => none
  | k + 1, x6, x50 => if x50 = true then (some (0, 9)) else (r1Pars.l2 k x6 0 0)
def r1Pars.l2 : Nat → ByteArray → Int → Int → Option (Int × Int)
  | 0, _, _, _ => none
  | k + 1, x6, x7, x8 => if x8 < (x6.size : Int) then (if 0 ≤ x8 then (r1Pars.l2 k x6 (wrap64 ((wrap64 ((wrap64 (10 * x7)) + (wrap64 (bt x6 x8)))) - 48)) (wrap64 (x8 + 1))) else (none)) else (some (x7, 0))
def r1Pars.l1 : Nat → ByteArray → Int → Option (Int × Int)
  | 0, _, _ => none
  | k + 1, x0, x5 => if x5 < (wrap64 ((x0.size : Int) - 1)) then (if 0 ≤ x5 then (if x5 < (x0.size : Int) then (if (bt x0 x5) = 48 then (r1Pars.l1 k x0 (wrap64 (x5 + 1))) else (r1Pars.j2 k x0 x5)) else (none)) else (none)) else (r1Pars.j2 k x0 x5)
end
def r1Pars.f (k : Nat) (a0 : ByteArray) : Option (Int × Int) := if (a0.size : Int) = 0 then (some (0, 3)) else (r1Pars.l0 k a0 0)
theorem r1Pars.mono_l : ∀ k, (∀ y0 y1, LeO (r1Pars.l0 k y0 y1) (r1Pars.l0 (k + 1) y0 y1)) ∧ (∀ y0 y1, LeO (r1Pars.j2 k y0 y1) (r1Pars.j2 (k + 1) y0 y1)) ∧ (∀ y0 y1, LeO (r1Pars.j3 k y0 y1) (r1Pars.j3 (k + 1) y0 y1)) ∧ (∀ y0 y1 y2, LeO (r1Pars.l2 k y0 y1 y2) (r1Pars.l2 (k + 1) y0 y1 y2)) ∧ (∀ y0 y1, LeO (r1Pars.l1 k y0 y1) (r1Pars.l1 (k + 1) y0 y1))
  | 0 => ⟨fun _ _ r h => by simp [r1Pars.l0] at h, fun _ _ r h => by simp [r1Pars.j2] at h, fun _ _ r h => by simp [r1Pars.j3] at h, fun _ _ _ r h => by simp [r1Pars.l2] at h, fun _ _ r h => by simp [r1Pars.l1] at h⟩
  | k + 1 => by
    obtain ⟨ih0, ih1, ih2, ih3, ih4⟩ := r1Pars.mono_l k
    refine ⟨?_, ?_, ?_, ?_, ?_⟩
    · intro y0 y1
      unfold r1Pars.l0
      repeat' first
      | (with_reducible exact ih0 _ _)
      | (with_reducible exact ih1 _ _)
      | (with_reducible exact ih2 _ _)
      | (with_reducible exact ih3 _ _ _)
      | (with_reducible exact ih4 _ _)
      | (with_reducible exact LeO.refl _)
      | (with_reducible exact LeO.none _)
      | (with_reducible refine LeO.ite ?_ ?_)
      | (with_reducible refine LeO.bind ?_ (fun _ => ?_))
      | exact ih0 _ _
      | exact ih1 _ _
      | exact ih2 _ _
      | exact ih3 _ _ _
      | exact ih4 _ _
      | exact LeO.none _
      | refine LeO.ite ?_ ?_
      | refine LeO.bind ?_ (fun _ => ?_)
    · intro y0 y1
      unfold r1Pars.j2
      repeat' first
      | (with_reducible exact ih0 _ _)
      | (with_reducible exact ih1 _ _)
      | (with_reducible exact ih2 _ _)
      | (with_reducible exact ih3 _ _ _)
      | (with_reducible exact ih4 _ _)
      | (with_reducible exact LeO.refl _)
      | (with_reducible exact LeO.none _)
      | (with_reducible refine LeO.ite ?_ ?_)
      | (with_reducible refine LeO.bind ?_ (fun _ => ?_))
      | exact ih0 _ _
      | exact ih1 _ _
      | exact ih2 _ _
      | exact ih3 _ _ _
      | exact ih4 _ _
      | exact LeO.none _
      | refine LeO.ite ?_ ?_
      | refine LeO.bind ?_ (fun _ => ?_)
    · intro y0 y1
      unfold r1Pars.j3
      repeat' first
      | (with_reducible exact ih0 _ _)
      | (with_reducible exact ih1 _ _)
      | (with_reducible exact ih2 _ _)
      | (with_reducible exact ih3 _ _ _)
      | (with_reducible exact ih4 _ _)
      | (with_reducible exact LeO.refl _)
      | (with_reducible exact LeO.none _)
      | (with_reducible refine LeO.ite ?_ ?_)
      | (with_reducible refine LeO.bind ?_ (fun _ => ?_))
      | exact ih0 _ _
      | exact ih1 _ _
      | exact ih2 _ _
      | exact ih3 _ _ _
      | exact ih4 _ _
      | exact LeO.none _
      | refine LeO.ite ?_ ?_
      | refine LeO.bind ?_ (fun _ => ?_)
    · intro y0 y1 y2
      unfold r1Pars.l2
      repeat' first
      | (with_reducible exact ih0 _ _)
      | (with_reducible exact ih1 _ _)
      | (with_reducible exact ih2 _ _)
      | (with_reducible exact ih3 _ _ _)
      | (with_reducible exact ih4 _ _)
      | (with_reducible exact LeO.refl _)
      | (with_reducible exact LeO.none _)
      | (with_reducible refine LeO.ite ?_ ?_)
      | (with_reducible refine LeO.bind ?_ (fun _ => ?_))
      | exact ih0 _ _
      | exact ih1 _ _
      | exact ih2 _ _
      | exact ih3 _ _ _
      | exact ih4 _ _
      | exact LeO.none _
      | refine LeO.ite ?_ ?_
      | refine LeO.bind ?_ (fun _ => ?_)
    · intro y0 y1
      unfold r1Pars.l1
      repeat' first
      | (with_reducible exact ih0 _ _)
      | (with_reducible exact ih1 _ _)
      | (with_reducible exact ih2 _ _)
      | (with_reducible exact ih3 _ _ _)
      | (with_reducible exact ih4 _ _)
      | (with_reducible exact LeO.refl _)
      | (with_reducible exact LeO.none _)
      | (with_reducible refine LeO.ite ?_ ?_)
      | (with_reducible refine LeO.bind ?_ (fun _ => ?_))
      | exact ih0 _ _
      | exact ih1 _ _
      | exact ih2 _ _
      | exact ih3 _ _ _
      | exact ih4 _ _
      | exact LeO.none _
      | refine LeO.ite ?_ ?_
      | refine LeO.bind ?_ (fun _ => ?_)
theorem r1Pars.mono : ∀ a0 k, LeO (r1Pars.f k a0) (r1Pars.f (k + 1) a0) := by
  intro a0 k
  obtain ⟨ih0, ih1, ih2, ih3, ih4⟩ := r1Pars.mono_l k
  unfold r1Pars.f
  repeat' first
      | (with_reducible exact ih0 _ _)
      | (with_reducible exact ih1 _ _)
      | (with_reducible exact ih2 _ _)
      | (with_reducible exact ih3 _ _ _)
      | (with_reducible exact ih4 _ _)
      | (with_reducible exact LeO.refl _)
      | (with_reducible exact LeO.none _)
      | (with_reducible refine LeO.ite ?_ ?_)
      | (with_reducible refine LeO.bind ?_ (fun _ => ?_))
      | exact ih0 _ _
      | exact ih1 _ _
      | exact ih2 _ _
      | exact ih3 _ _ _
      | exact ih4 _ _
      | exact LeO.none _
      | refine LeO.ite ?_ ?_
      | refine LeO.bind ?_ (fun _ => ?_)
set_option maxHeartbeats 8000000 in
set_option maxRecDepth 100000 in
theorem r1Pars.calls (k : Nat) (a0 : ByteArray) (r1 : Int) (r2 : Int) (w : World) (h : r1Pars.f k a0 = some (r1, r2)) :
    Calls Try.prog 78 #[.string a0] w fun e w' => e = .returned (.tuple #[.int .i64 r1, .int .i64 r2]) ∧ Drawn0 w w' := by
  have H : (if (a0.size : Int) = 0 then (some (0, 3)) else (r1Pars.l0 k a0 0)) = some (r1, r2) := h
  clear h
  by_cases c2 : (a0.size : Int) = 0
  · rw [if_pos c2] at H
    have c2b0 : ((a0.size : Int) == 0) = true := beq_iff_eq.mpr c2
    have c2b1 : ((a0.size : Int) != 0) = false := bne_eq_false_iff_eq.mpr c2
    clear c2
    simp only [Option.some.injEq, Prod.mk.injEq] at H
    obtain ⟨rfl, rfl⟩ := H
    go_enter Try.func78, Try.ntmps78
    go_wp2
    go_ret2
    exact ⟨by first | rfl | (simp; done) | (simp [*]; done) | exact nEm _ | exact eEm _, by repeat (first | exact Drawn0.refl _ | apply Drawn0.step)⟩
  · rw [if_neg c2] at H
    have c2b0 : ((a0.size : Int) == 0) = false := beq_eq_false_iff_ne.mpr c2
    have c2b1 : ((a0.size : Int) != 0) = true := bne_iff_ne.mpr c2
    have H' := AsZ.mk H
    clear H
    go_enter Try.func78, Try.ntmps78
    go_wp2
    go_loopg [4] k (fun kq v4 w' => ∃ (x4_1 : Int), v4 = .int .i64 x4_1 ∧ AsZ (r1Pars.l0 kq a0 x4_1 = some (r1, r2)) ∧ AsZ (kq ≤ k) ∧ Drawn0 w w')
    case atStart => exact ⟨(0), (by first | rfl | (simp; done) | (simp [*]; done)), H', ⟨Nat.le_refl _⟩, by repeat (first | exact Drawn0.refl _ | apply Drawn0.step)⟩
    case round =>
      clear H'
      try clear c2
      try clear c2b0
      try clear c2b1
      try clear p2
      obtain ⟨x4_1, rfl, HA, HK1, ⟨m1, rfl⟩⟩ := hrel
      cases gk with
      | zero => exact absurd HA.out (by simp [r1Pars.l0])
      | succ k1 =>
        have H := HA.out
        clear HA
        simp only [r1Pars.l0] at H
        by_cases c3 : x4_1 < (a0.size : Int)
        · rw [if_pos c3] at H
          have c3b0 : decide (x4_1 < (a0.size : Int)) = true := decide_eq_true c3
          clear c3
          by_cases c4 : 0 ≤ x4_1
          · rw [if_pos c4] at H
            have c4b0 : decide (0 ≤ x4_1) = true := decide_eq_true c4
            clear c4
            replace H := Option.bind_eq_some_iff.mp H
            obtain ⟨t405, A60, H⟩ := H
            replace H : (if t405 = true then (r1Pars.l0 k1 a0 (wrap64 (x4_1 + 1))) else (some (0, 3))) = some (r1, r2) := H
            have A6 := AsZ.mk A60
            clear A60
            by_cases c7 : t405 = true
            · subst c7
              have H1 : (r1Pars.l0 k1 a0 (wrap64 (x4_1 + 1))) = some (r1, r2) := by rw [if_pos rfl] at H; exact H
              clear H
              have H := H1
              clear H1
              have H' := AsZ.mk H
              clear H
              have p5 : 0 ≤ (x4_1 : Int) := of_decide_eq_true (by first | (with_reducible assumption) | assumption)
              have q5 : x4_1 < (a0.size : Int) := of_decide_eq_true (by first | (with_reducible assumption) | assumption)
              have hx5 := bt_at a0 x4_1
              replace p5 := eq_true p5
              replace q5 := eq_true q5
              go_wp2_with (first | ((with_reducible refine gCa (f := 82) rfl ?_); refine gLl (some 21) rfl rfl Try.func82 (by kernel_rfl) rfl #[.int .u8 (bt a0 x4_1)] rfl (by (try simp only [List.map_toArray, List.map_cons, List.map_nil]); first | done | rfl | (simp only [List.length_drop, List.length_take]; rfl)) ?_; (with_reducible refine (spenceref01_Digit.calls (bt a0 x4_1) true _ A6.out).mono ?_); rintro e w' ⟨rfl, ⟨nd, rfl⟩⟩; refine ⟨_, rfl, ?_⟩))
              go_roundg k1
              case measure => have := HK1.out; omega
              case rel => exact ⟨(wrap64 (x4_1 + 1)), (by first | rfl | (simp; done) | (simp [*]; done)), H', ⟨by have := HK1.out; omega⟩, by repeat (first | exact Drawn0.refl _ | apply Drawn0.step)⟩
            · replace c7 := Bool.eq_false_iff.mpr c7
              subst c7
              have H1 : (some (0, 3)) = some (r1, r2) := by rw [if_neg (show ¬ (false = true) by decide)] at H; exact H
              clear H
              have H := H1
              clear H1
              simp only [Option.some.injEq, Prod.mk.injEq] at H
              obtain ⟨rfl, rfl⟩ := H
              have p5 : 0 ≤ (x4_1 : Int) := of_decide_eq_true (by first | (with_reducible assumption) | assumption)
              have q5 : x4_1 < (a0.size : Int) := of_decide_eq_true (by first | (with_reducible assumption) | assumption)
              have hx5 := bt_at a0 x4_1
              replace p5 := eq_true p5
              replace q5 := eq_true q5
              go_wp2_with (first | ((with_reducible refine gCa (f := 82) rfl ?_); refine gLl (some 21) rfl rfl Try.func82 (by kernel_rfl) rfl #[.int .u8 (bt a0 x4_1)] rfl (by (try simp only [List.map_toArray, List.map_cons, List.map_nil]); first | done | rfl | (simp only [List.length_drop, List.length_take]; rfl)) ?_; (with_reducible refine (spenceref01_Digit.calls (bt a0 x4_1) false _ A6.out).mono ?_); rintro e w' ⟨rfl, ⟨nd, rfl⟩⟩; refine ⟨_, rfl, ?_⟩))
              go_ret2
              exact ⟨by first | rfl | (simp; done) | (simp [*]; done) | exact nEm _ | exact eEm _, by repeat (first | exact Drawn0.refl _ | apply Drawn0.step)⟩
          · rw [if_neg c4] at H
            exact absurd H (by simp)
        · rw [if_neg c3] at H
          have c3b0 : decide (x4_1 < (a0.size : Int)) = false := decide_eq_false c3
          clear c3
          have HC8 := AsZ.mk H
          clear H
          go_upto_block 2 with (fail)
          go_cut [5] (fun v5 wc => ∃ (kq : Nat) (x5_7 : Int), v5 = .int .i64 x5_7 ∧ AsZ (r1Pars.j2 kq a0 x5_7 = some (r1, r2)) ∧ AsZ (kq ≤ k1) ∧ Drawn0 w wc)
          case first =>
            have H := HC8.out
            clear HC8
            have H' := AsZ.mk H
            clear H
            go_wp2
            go_loopg [5] k1 (fun kq v5 w' => ∃ (x5_2 : Int), v5 = .int .i64 x5_2 ∧ AsZ (r1Pars.l1 kq a0 x5_2 = some (r1, r2)) ∧ AsZ (kq ≤ k1) ∧ Drawn0 w w')
            case atStart => exact ⟨(0), (by first | rfl | (simp; done) | (simp [*]; done)), H', ⟨Nat.le_refl _⟩, by repeat (first | exact Drawn0.refl _ | apply Drawn0.step)⟩
            case round =>
              clear H'
              try clear c2
              try clear c2b0
              try clear c2b1
              try clear p2
              try clear c3
              try clear c3b0
              try clear c4
              try clear c4b0
              try clear p5
              try clear q5
              try clear hx5
              try clear p6
              try clear c7
              try clear c8
              try clear p2
              try clear p5
              try clear q5
              obtain ⟨x5_2, rfl, HA, HK2, ⟨m2, rfl⟩⟩ := hrel
              cases gk with
              | zero => exact absurd HA.out (by simp [r1Pars.l1])
              | succ k2 =>
                have H := HA.out
                clear HA
                simp only [r1Pars.l1] at H
                by_cases c9 : x5_2 < (wrap64 ((a0.size : Int) - 1))
                · rw [if_pos c9] at H
                  have c9b0 : decide (x5_2 < (wrap64 ((a0.size : Int) - 1))) = true := decide_eq_true c9
                  clear c9
                  (first | rw [c9b0] | (simp only [i64_w, i32_w]; rw [c9b0]) | skip)
                  by_cases c10 : 0 ≤ x5_2
                  · rw [if_pos c10] at H
                    have c10b0 : decide (0 ≤ x5_2) = true := decide_eq_true c10
                    clear c10
                    by_cases c11 : x5_2 < (a0.size : Int)
                    · rw [if_pos c11] at H
                      have c11b0 : decide (x5_2 < (a0.size : Int)) = true := decide_eq_true c11
                      clear c11
                      by_cases c13 : (bt a0 x5_2) = 48
                      · rw [if_pos c13] at H
                        have c13b0 : ((bt a0 x5_2) == 48) = true := beq_iff_eq.mpr c13
                        have c13b1 : ((bt a0 x5_2) != 48) = false := bne_eq_false_iff_eq.mpr c13
                        clear c13
                        have H' := AsZ.mk H
                        clear H
                        have p12 : 0 ≤ (x5_2 : Int) := of_decide_eq_true (by first | (with_reducible assumption) | assumption)
                        have q12 : x5_2 < (a0.size : Int) := of_decide_eq_true (by first | (with_reducible assumption) | assumption)
                        have hx12 := bt_at a0 x5_2
                        replace p12 := eq_true p12
                        replace q12 := eq_true q12
                        go_wp2
                        go_roundg k2
                        case measure => have := HK1.out; have := HK2.out; omega
                        case rel => exact ⟨(wrap64 (x5_2 + 1)), (by first | rfl | (simp; done) | (simp [*]; done)), H', ⟨by have := HK1.out; have := HK2.out; omega⟩, by repeat (first | exact Drawn0.refl _ | apply Drawn0.step)⟩
                      · rw [if_neg c13] at H
                        have c13b0 : ((bt a0 x5_2) == 48) = false := beq_eq_false_iff_ne.mpr c13
                        have c13b1 : ((bt a0 x5_2) != 48) = true := bne_iff_ne.mpr c13
                        have H' := AsZ.mk H
                        clear H
                        have p12 : 0 ≤ (x5_2 : Int) := of_decide_eq_true (by first | (with_reducible assumption) | assumption)
                        have q12 : x5_2 < (a0.size : Int) := of_decide_eq_true (by first | (with_reducible assumption) | assumption)
                        have hx12 := bt_at a0 x5_2
                        replace p12 := eq_true p12
                        replace q12 := eq_true q12
                        go_wp2
                        go_meet
                        case rel => exact ⟨_, (x5_2), (by first | rfl | (simp; done) | (simp [*]; done)), H', ⟨by have := HK1.out; have := HK2.out; first | omega | exact Nat.le_refl _⟩, by repeat (first | exact Drawn0.refl _ | apply Drawn0.step)⟩
                    · rw [if_neg c11] at H
                      exact absurd H (by simp)
                  · rw [if_neg c10] at H
                    exact absurd H (by simp)
                · rw [if_neg c9] at H
                  have c9b0 : decide (x5_2 < (wrap64 ((a0.size : Int) - 1))) = false := decide_eq_false c9
                  clear c9
                  (first | rw [c9b0] | (simp only [i64_w, i32_w]; rw [c9b0]) | skip)
                  have H' := AsZ.mk H
                  clear H
                  go_wp2
                  go_meet
                  case rel => exact ⟨_, (x5_2), (by first | rfl | (simp; done) | (simp [*]; done)), H', ⟨by have := HK1.out; have := HK2.out; first | omega | exact Nat.le_refl _⟩, by repeat (first | exact Drawn0.refl _ | apply Drawn0.step)⟩
          case rest =>
            clear HC8
            try clear c1
            try clear p1
            try clear q1
            try clear hx1
            try clear c2
            try clear c2b0
            try clear c2b1
            try clear p2
            try clear c3
            try clear c3b0
            try clear c4
            try clear c4b0
            try clear p5
            try clear q5
            try clear hx5
            try clear p6
            try clear c7
            try clear c8
            try clear c9
            try clear c9b0
            try clear c10
            try clear c10b0
            try clear c11
            try clear c11b0
            try clear p12
            try clear q12
            try clear hx12
            try clear c13
            try clear c13b0
            try clear c13b1
            try clear p12
            try clear p2
            try clear p5
            try clear p6
            try clear q12
            try clear q5
            obtain ⟨kq, x5_7, rfl, HA, HJ7, ⟨mc7, rfl⟩⟩ := hcut
            cases kq with
            | zero => exact absurd HA.out (by simp [r1Pars.j2])
            | succ kj7 =>
              have H := HA.out
              clear HA
              simp only [r1Pars.j2] at H
              by_cases c14 : 0 ≤ x5_7
              · rw [if_pos c14] at H
                have c14b0 := eq_true c14
                have c14b1 : decide (0 ≤ x5_7) = true := decide_eq_true c14
                clear c14
                by_cases c15 : x5_7 ≤ (a0.size : Int)
                · rw [if_pos c15] at H
                  have c15b0 := eq_true c15
                  have c15b1 : decide (x5_7 ≤ (a0.size : Int)) = true := decide_eq_true c15
                  clear c15
                  have HC16 := AsZ.mk H
                  clear H
                  go_upto_region 12 with (fail)
                  go_cut [50] (fun v50 wc => ∃ (kq : Nat) (x50_15 : Bool), v50 = .bool x50_15 ∧ AsZ (r1Pars.j3 kq (a0.extract (x5_7 : Int).toNat a0.size) x50_15 = some (r1, r2)) ∧ AsZ (kq ≤ kj7) ∧ Drawn0 w wc)
                  case first =>
                    have H := HC16.out
                    clear HC16
                    by_cases c17 : ((a0.extract (x5_7 : Int).toNat a0.size).size : Int) > 19
                    · rw [if_pos c17] at H
                      have c17b0 : decide (19 < ((a0.extract (x5_7 : Int).toNat a0.size).size : Int)) = true := decide_eq_true c17
                      have c17b1 : decide (19 < (a0.extract (x5_7 : Int).toNat a0.size).size) = true := decide_eq_true (by omega)
                      (try (have c17b2 : decide (19 < ((a0.size - (x5_7 : Int).toNat : Nat) : Int)) = true := by have h_ : decide (19 < ((a0.extract (x5_7 : Int).toNat a0.size).size : Int)) = true := decide_eq_true c17; first | (simpa using h_) | (simp at h_ ⊢; omega)))
                      (try (have c17b3 : 19 < ((a0.size - (x5_7 : Int).toNat : Nat) : Int) := by have h_ : decide (19 < ((a0.extract (x5_7 : Int).toNat a0.size).size : Int)) = true := decide_eq_true c17; first | (simpa using h_) | (simp at h_ ⊢; omega)))
                      (try (have c17b4 : decide (19 < (a0.size - (x5_7 : Int).toNat : Nat)) = true := by have h_ : decide (19 < (a0.extract (x5_7 : Int).toNat a0.size).size) = true := decide_eq_true (by omega); first | (simpa using h_) | (simp at h_ ⊢; omega)))
                      (try (have c17b5 : 19 < (a0.size - (x5_7 : Int).toNat : Nat) := by have h_ : decide (19 < (a0.extract (x5_7 : Int).toNat a0.size).size) = true := decide_eq_true (by omega); first | (simpa using h_) | (simp at h_ ⊢; omega)))
                      clear c17
                      (first | rw [c17b0] | (simp only [i64_w, i32_w]; rw [c17b0]) | skip)
                      have H' := AsZ.mk H
                      clear H
                      go_wp2
                      go_meet
                      case rel => exact ⟨_, (true), (by first | rfl | (simp; done) | (simp [*]; done)), H', ⟨by have := HK1.out; have := HJ7.out; first | omega | exact Nat.le_refl _⟩, by repeat (first | exact Drawn0.refl _ | apply Drawn0.step)⟩
                    · rw [if_neg c17] at H
                      have c17b0 : decide (19 < ((a0.extract (x5_7 : Int).toNat a0.size).size : Int)) = false := decide_eq_false c17
                      have c17b1 : decide (19 < (a0.extract (x5_7 : Int).toNat a0.size).size) = false := decide_eq_false (by omega)
                      (try (have c17b2 : decide (19 < ((a0.size - (x5_7 : Int).toNat : Nat) : Int)) = false := by have h_ : decide (19 < ((a0.extract (x5_7 : Int).toNat a0.size).size : Int)) = false := decide_eq_false c17; first | (simpa using h_) | (simp at h_ ⊢; omega)))
                      (try (have c17b3 : ¬ (19 < ((a0.size - (x5_7 : Int).toNat : Nat) : Int)) := by have h_ : decide (19 < ((a0.extract (x5_7 : Int).toNat a0.size).size : Int)) = false := decide_eq_false c17; first | (simpa using h_) | (simp at h_ ⊢; omega)))
                      (try (have c17b4 : decide (19 < (a0.size - (x5_7 : Int).toNat : Nat)) = false := by have h_ : decide (19 < (a0.extract (x5_7 : Int).toNat a0.size).size) = false := decide_eq_false (by omega); first | (simpa using h_) | (simp at h_ ⊢; omega)))
                      (try (have c17b5 : ¬ (19 < (a0.size - (x5_7 : Int).toNat : Nat)) := by have h_ : decide (19 < (a0.extract (x5_7 : Int).toNat a0.size).size) = false := decide_eq_false (by omega); first | (simpa using h_) | (simp at h_ ⊢; omega)))
                      clear c17
                      (first | rw [c17b0] | (simp only [i64_w, i32_w]; rw [c17b0]) | skip)
                      by_cases c18 : ((a0.extract (x5_7 : Int).toNat a0.size).size : Int) = 19
                      · rw [if_pos c18] at H
                        have c18b0 : (((a0.extract (x5_7 : Int).toNat a0.size).size : Int) == 19) = true := beq_iff_eq.mpr c18
                        have c18b1 : (((a0.extract (x5_7 : Int).toNat a0.size).size : Int) != 19) = false := bne_eq_false_iff_eq.mpr c18
                        (try (have c18b2 : (((a0.size - (x5_7 : Int).toNat : Nat) : Int) == 19) = true := by have h_ : (((a0.extract (x5_7 : Int).toNat a0.size).size : Int) == 19) = true := beq_iff_eq.mpr c18; first | (simpa using h_) | (simp at h_ ⊢; omega)))
                        (try (have c18b3 : (((a0.size - (x5_7 : Int).toNat : Nat) : Int) != 19) = false := by have h_ : (((a0.extract (x5_7 : Int).toNat a0.size).size : Int) != 19) = false := bne_eq_false_iff_eq.mpr c18; first | (simpa using h_) | (simp at h_ ⊢; omega)))
                        clear c18
                        have H' := AsZ.mk H
                        clear H
                        go_wp2
                        go_meet
                        case rel => exact ⟨_, (!(Op.bytesLess ((a0.extract (x5_7 : Int).toNat a0.size).toList) ([52, 54, 49, 49, 54, 56, 54, 48, 49, 56, 52, 50, 55, 51, 56, 55, 57, 48, 51] : List UInt8) || ((a0.extract (x5_7 : Int).toNat a0.size).toList) == ([52, 54, 49, 49, 54, 56, 54, 48, 49, 56, 52, 50, 55, 51, 56, 55, 57, 48, 51] : List UInt8))), (by first | rfl | (simp; done) | (simp [*]; done)), H', ⟨by have := HK1.out; have := HJ7.out; first | omega | exact Nat.le_refl _⟩, by repeat (first | exact Drawn0.refl _ | apply Drawn0.step)⟩
                      · rw [if_neg c18] at H
                        have c18b0 : (((a0.extract (x5_7 : Int).toNat a0.size).size : Int) == 19) = false := beq_eq_false_iff_ne.mpr c18
                        have c18b1 : (((a0.extract (x5_7 : Int).toNat a0.size).size : Int) != 19) = true := bne_iff_ne.mpr c18
                        (try (have c18b2 : (((a0.size - (x5_7 : Int).toNat : Nat) : Int) == 19) = false := by have h_ : (((a0.extract (x5_7 : Int).toNat a0.size).size : Int) == 19) = false := beq_eq_false_iff_ne.mpr c18; first | (simpa using h_) | (simp at h_ ⊢; omega)))
                        (try (have c18b3 : (((a0.size - (x5_7 : Int).toNat : Nat) : Int) != 19) = true := by have h_ : (((a0.extract (x5_7 : Int).toNat a0.size).size : Int) != 19) = true := bne_iff_ne.mpr c18; first | (simpa using h_) | (simp at h_ ⊢; omega)))
                        have H' := AsZ.mk H
                        clear H
                        go_wp2
                        go_meet
                        case rel => exact ⟨_, (false), (by first | rfl | (simp; done) | (simp [*]; done)), H', ⟨by have := HK1.out; have := HJ7.out; first | omega | exact Nat.le_refl _⟩, by repeat (first | exact Drawn0.refl _ | apply Drawn0.step)⟩
                  case rest =>
                    clear HC16
                    try clear c1
                    try clear p1
                    try clear q1
                    try clear hx1
                    try clear c2
                    try clear c2b0
                    try clear c2b1
                    try clear p2
                    try clear c3
                    try clear c3b0
                    try clear c4
                    try clear c4b0
                    try clear p5
                    try clear q5
                    try clear hx5
                    try clear p6
                    try clear c7
                    try clear c8
                    try clear c9
                    try clear c9b0
                    try clear c10
                    try clear c10b0
                    try clear c11
                    try clear c11b0
                    try clear p12
                    try clear q12
                    try clear hx12
                    try clear c13
                    try clear c13b0
                    try clear c13b1
                    try clear c14
                    try clear c14b0
                    try clear c14b1
                    try clear c15
                    try clear c15b0
                    try clear c15b1
                    try clear c17
                    try clear c17b0
                    try clear c17b1
                    try clear c17b2
                    try clear c18
                    try clear c18b0
                    try clear c18b1
                    try clear c18b2
                    try clear p1
                    try clear p12
                    try clear p2
                    try clear p5
                    try clear p6
                    try clear q1
                    try clear q12
                    try clear q5
                    obtain ⟨kq, x50_15, rfl, HA, HJ15, ⟨mc15, rfl⟩⟩ := hcut
                    cases kq with
                    | zero => exact absurd HA.out (by simp [r1Pars.j3])
                    | succ kj15 =>
                      have H := HA.out
                      clear HA
                      simp only [r1Pars.j3] at H
                      by_cases c19 : x50_15 = true
                      · subst c19
                        have H1 : (some (0, 9)) = some (r1, r2) := by rw [if_pos rfl] at H; exact H
                        clear H
                        have H := H1
                        clear H1
                        simp only [Option.some.injEq, Prod.mk.injEq] at H
                        obtain ⟨rfl, rfl⟩ := H
                        go_wp2
                        go_ret2
                        exact ⟨by first | rfl | (simp; done) | (simp [*]; done) | exact nEm _ | exact eEm _, by repeat (first | exact Drawn0.refl _ | apply Drawn0.step)⟩
                      · replace c19 := Bool.eq_false_iff.mpr c19
                        subst c19
                        have H1 : (r1Pars.l2 kj15 (a0.extract (x5_7 : Int).toNat a0.size) 0 0) = some (r1, r2) := by rw [if_neg (show ¬ (false = true) by decide)] at H; exact H
                        clear H
                        have H := H1
                        clear H1
                        have H' := AsZ.mk H
                        clear H
                        go_wp2
                        go_loopg [7, 8] kj15 (fun kq v7 v8 w' => ∃ (x7_4 : Int) (x8_4 : Int), v7 = .int .i64 x7_4 ∧ v8 = .int .i64 x8_4 ∧ AsZ (r1Pars.l2 kq (a0.extract (x5_7 : Int).toNat a0.size) x7_4 x8_4 = some (r1, r2)) ∧ AsZ (kq ≤ kj15) ∧ Drawn0 w w')
                        case atStart => exact ⟨(0), (0), (by first | rfl | (simp; done) | (simp [*]; done)), (by first | rfl | (simp; done) | (simp [*]; done)), H', ⟨Nat.le_refl _⟩, by repeat (first | exact Drawn0.refl _ | apply Drawn0.step)⟩
                        case round =>
                          clear H'
                          try clear c1
                          try clear p1
                          try clear q1
                          try clear hx1
                          try clear c2
                          try clear c2b0
                          try clear c2b1
                          try clear p2
                          try clear c3
                          try clear c3b0
                          try clear c4
                          try clear c4b0
                          try clear p5
                          try clear q5
                          try clear hx5
                          try clear p6
                          try clear c7
                          try clear c8
                          try clear c9
                          try clear c9b0
                          try clear c10
                          try clear c10b0
                          try clear c11
                          try clear c11b0
                          try clear p12
                          try clear q12
                          try clear hx12
                          try clear c13
                          try clear c13b0
                          try clear c13b1
                          try clear c14
                          try clear c14b0
                          try clear c14b1
                          try clear c15
                          try clear c15b0
                          try clear c15b1
                          try clear c17
                          try clear c17b0
                          try clear c17b1
                          try clear c17b2
                          try clear c18
                          try clear c18b0
                          try clear c18b1
                          try clear c18b2
                          try clear c19
                          try clear p1
                          try clear p12
                          try clear p2
                          try clear p5
                          try clear p6
                          try clear q1
                          try clear q12
                          try clear q5
                          obtain ⟨x7_4, x8_4, rfl, rfl, HA, HK4, ⟨m4, rfl⟩⟩ := hrel
                          cases gk with
                          | zero => exact absurd HA.out (by simp [r1Pars.l2])
                          | succ k4 =>
                            have H := HA.out
                            clear HA
                            simp only [r1Pars.l2] at H
                            by_cases c20 : x8_4 < ((a0.extract (x5_7 : Int).toNat a0.size).size : Int)
                            · rw [if_pos c20] at H
                              have c20b0 : decide (x8_4 < ((a0.extract (x5_7 : Int).toNat a0.size).size : Int)) = true := decide_eq_true c20
                              (try (have c20b1 : decide (x8_4 < ((a0.size - (x5_7 : Int).toNat : Nat) : Int)) = true := by have h_ : decide (x8_4 < ((a0.extract (x5_7 : Int).toNat a0.size).size : Int)) = true := decide_eq_true c20; first | (simpa using h_) | (simp at h_ ⊢; omega)))
                              (try (have c20b2 : x8_4 < ((a0.size - (x5_7 : Int).toNat : Nat) : Int) := by have h_ : decide (x8_4 < ((a0.extract (x5_7 : Int).toNat a0.size).size : Int)) = true := decide_eq_true c20; first | (simpa using h_) | (simp at h_ ⊢; omega)))
                              clear c20
                              by_cases c21 : 0 ≤ x8_4
                              · rw [if_pos c21] at H
                                have c21b0 : decide (0 ≤ x8_4) = true := decide_eq_true c21
                                clear c21
                                have H' := AsZ.mk H
                                clear H
                                have p22 : 0 ≤ (x8_4 : Int) := of_decide_eq_true (by first | (with_reducible assumption) | assumption)
                                have q22 : x8_4 < ((a0.extract (x5_7 : Int).toNat a0.size).size : Int) := of_decide_eq_true (by first | (with_reducible assumption) | assumption)
                                have hx22 := bt_at (a0.extract (x5_7 : Int).toNat a0.size) x8_4
                                replace p22 := eq_true p22
                                replace q22 := eq_true q22
                                go_wp2
                                go_roundg k4
                                case measure => have := HK1.out; have := HJ7.out; have := HJ15.out; have := HK4.out; omega
                                case rel => exact ⟨(wrap64 ((wrap64 ((wrap64 (10 * x7_4)) + (wrap64 (bt (a0.extract (x5_7 : Int).toNat a0.size) x8_4)))) - 48)), (wrap64 (x8_4 + 1)), (by first | rfl | (simp; done) | (simp [*]; done)), (by first | rfl | (simp; done) | (simp [*]; done)), H', ⟨by have := HK1.out; have := HJ7.out; have := HJ15.out; have := HK4.out; omega⟩, by repeat (first | exact Drawn0.refl _ | apply Drawn0.step)⟩
                              · rw [if_neg c21] at H
                                exact absurd H (by simp)
                            · rw [if_neg c20] at H
                              have c20b0 : decide (x8_4 < ((a0.extract (x5_7 : Int).toNat a0.size).size : Int)) = false := decide_eq_false c20
                              (try (have c20b1 : decide (x8_4 < ((a0.size - (x5_7 : Int).toNat : Nat) : Int)) = false := by have h_ : decide (x8_4 < ((a0.extract (x5_7 : Int).toNat a0.size).size : Int)) = false := decide_eq_false c20; first | (simpa using h_) | (simp at h_ ⊢; omega)))
                              (try (have c20b2 : ¬ (x8_4 < ((a0.size - (x5_7 : Int).toNat : Nat) : Int)) := by have h_ : decide (x8_4 < ((a0.extract (x5_7 : Int).toNat a0.size).size : Int)) = false := decide_eq_false c20; first | (simpa using h_) | (simp at h_ ⊢; omega)))
                              clear c20
                              simp only [Option.some.injEq, Prod.mk.injEq] at H
                              obtain ⟨rfl, rfl⟩ := H
                              go_wp2
                              go_ret2
                              exact ⟨by first | rfl | (simp; done) | (simp [*]; done) | exact nEm _ | exact eEm _, by repeat (first | exact Drawn0.refl _ | apply Drawn0.step)⟩
                · rw [if_neg c15] at H
                  exact absurd H (by simp)
              · rw [if_neg c14] at H
                exact absurd H (by simp)
end Go.Proofs.Ytfcengffgkmacaa.PAll
namespace Go.Proofs.Ytfcengffgkmacaa.PAll
open Go.RowKit Go.Proofs.Ytfcengffgkmacaa.Xw Go.Proofs.YtfcengffgkmacaaW.PrintWords Go.Proofs.YtfcengffgkmacaaW.PrintLast Go.Proofs.YtfcengffgkmacaaW.PrintMore
attribute [local go_sem] max2_int min2_int max_two min_two max_three min_three max_four min_four   -- for this text's walks alone
set_option linter.unusedVariables false
set_option linter.unusedSimpArgs false
mutual
def r4Cont.j0 : Nat → ByteArray → ByteArray → Bool → Bool → Int → Int → Int → Option (Bool × Int × Int × Int × Int)
  | 0, _, _, _, _, _, _, _ => none
  | k + 1, x8, x9, x44, x408000, x408001, x408002, x408003 => if x44 = true then (some (false, 0, 0, 0, 3)) else (if x8.toList = ([42] : List UInt8) then (r4Cont.j1 k x9 false x408000 x408001 x408002 x408003) else ((r1Cut.f k x8 45).bind fun bt415 => ((r1Pars.f k bt415.1).bind fun bt418 => ((r1Pars.f k bt415.2.1).bind fun bt420 => (if bt415.2.2 = true then (if bt418.2 = 3 then (some (false, 0, 0, 0, 3)) else (if bt420.2 = 3 then (some (false, 0, 0, 0, 3)) else (if bt418.2 = 0 then (r4Cont.j1 k x9 (bt420.2 != 0) true bt418.1 (wrap64 (bt420.1 + 1)) x408003) else (r4Cont.j1 k x9 true true bt418.1 (wrap64 (bt420.1 + 1)) x408003)))) else (some (false, 0, 0, 0, 3)))))))
def r4Cont.j1 : Nat → ByteArray → Bool → Bool → Int → Int → Int → Option (Bool × Int × Int × Int × Int)
  | 0, _, _, _, _, _, _ => none
  | k + 1, x9, x11, x408000, x408001, x408002, x408003 => if x9.toList = ([42] : List UInt8) then (r4Cont.j2 k x11 x408000 x408001 x408002 x408003) else ((r1Pars.f k x9).bind fun bt422 => (if bt422.2 = 3 then (some (false, 0, 0, 0, 3)) else (if x11 = true then (r4Cont.j2 k true x408000 x408001 x408002 bt422.1) else (r4Cont.j2 k (bt422.2 != 0) x408000 x408001 x408002 bt422.1))))
def r4Cont.j2 : Nat → Bool → Bool → Int → Int → Int → Option (Bool × Int × Int × Int × Int)
  | 0, _, _, _, _, _ => none
  | k + 1, x11, x408000, x408001, x408002, x408003 => if x11 = true then (some (false, 0, 0, 0, 9)) else ((r4RC.f k x408000 x408001 x408002 x408003).bind fun t424 => (if t424 = true then (some (x408000, x408001, x408002, x408003, 0)) else (some (false, 0, 0, 0, 3))))
end
def r4Cont.f (k : Nat) (a0 : ByteArray) : Option (Bool × Int × Int × Int × Int) := (r1Cut.f k a0 32).bind fun bt408 => ((r1Cut.f k bt408.2.1 47).bind fun bt411 => (if bt408.2.2 = true then (if bt411.2.2 = true then ((r1Low.f k bt408.1).bind fun t414 => (r4Cont.j0 k bt411.1 bt411.2.1 (t414.toList != ([98, 121, 116, 101, 115] : List UInt8)) false 0 0 (-1))) else (r4Cont.j0 k bt411.1 bt411.2.1 true false 0 0 (-1))) else (r4Cont.j0 k bt411.1 bt411.2.1 true false 0 0 (-1))))
theorem r4Cont.mono_l : ∀ k, (∀ y0 y1 y2 y3 y4 y5 y6, LeO (r4Cont.j0 k y0 y1 y2 y3 y4 y5 y6) (r4Cont.j0 (k + 1) y0 y1 y2 y3 y4 y5 y6)) ∧ (∀ y0 y1 y2 y3 y4 y5, LeO (r4Cont.j1 k y0 y1 y2 y3 y4 y5) (r4Cont.j1 (k + 1) y0 y1 y2 y3 y4 y5)) ∧ (∀ y0 y1 y2 y3 y4, LeO (r4Cont.j2 k y0 y1 y2 y3 y4) (r4Cont.j2 (k + 1) y0 y1 y2 y3 y4))
  | 0 => ⟨fun _ _ _ _ _ _ _ r h => by simp [r4Cont.j0] at h, fun _ _ _ _ _ _ r h => by simp [r4Cont.j1] at h, fun _ _ _ _ _ r h => by simp [r4Cont.j2] at h⟩
  | k + 1 => by
    obtain ⟨ih0, ih1, ih2⟩ := r4Cont.mono_l k
    refine ⟨?_, ?_, ?_⟩
    · intro y0 y1 y2 y3 y4 y5 y6
      unfold r4Cont.j0
      repeat' first
      | (with_reducible exact ih0 _ _ _ _ _ _ _)
      | (with_reducible exact ih1 _ _ _ _ _ _)
      | (with_reducible exact ih2 _ _ _ _ _)
      | (with_reducible exact r1Cut.mono _ _ _)
      | (with_reducible exact r1Low.mono _ _)
      | (with_reducible exact r1Pars.mono _ _)
      | (with_reducible exact r4RC.mono _ _ _ _ _)
      | (with_reducible exact LeO.refl _)
      | (with_reducible exact LeO.none _)
      | (with_reducible refine LeO.ite ?_ ?_)
      | (with_reducible refine LeO.bind ?_ (fun _ => ?_))
      | exact ih0 _ _ _ _ _ _ _
      | exact ih1 _ _ _ _ _ _
      | exact ih2 _ _ _ _ _
      | exact r1Cut.mono _ _ _
      | exact r1Low.mono _ _
      | exact r1Pars.mono _ _
      | exact r4RC.mono _ _ _ _ _
      | exact LeO.none _
      | refine LeO.ite ?_ ?_
      | refine LeO.bind ?_ (fun _ => ?_)
    · intro y0 y1 y2 y3 y4 y5
      unfold r4Cont.j1
      repeat' first
      | (with_reducible exact ih0 _ _ _ _ _ _ _)
      | (with_reducible exact ih1 _ _ _ _ _ _)
      | (with_reducible exact ih2 _ _ _ _ _)
      | (with_reducible exact r1Cut.mono _ _ _)
      | (with_reducible exact r1Low.mono _ _)
      | (with_reducible exact r1Pars.mono _ _)
      | (with_reducible exact r4RC.mono _ _ _ _ _)
      | (with_reducible exact LeO.refl _)
      | (with_reducible exact LeO.none _)
      | (with_reducible refine LeO.ite ?_ ?_)
      | (with_reducible refine LeO.bind ?_ (fun _ => ?_))
      | exact ih0 _ _ _ _ _ _ _
      | exact ih1 _ _ _ _ _ _
      | exact ih2 _ _ _ _ _
      | exact r1Cut.mono _ _ _
      | exact r1Low.mono _ _
      | exact r1Pars.mono _ _
      | exact r4RC.mono _ _ _ _ _
      | exact LeO.none _
      | refine LeO.ite ?_ ?_
      | refine LeO.bind ?_ (fun _ => ?_)
    · intro y0 y1 y2 y3 y4
      unfold r4Cont.j2
      repeat' first
      | (with_reducible exact ih0 _ _ _ _ _ _ _)
      | (with_reducible exact ih1 _ _ _ _ _ _)
      | (with_reducible exact ih2 _ _ _ _ _)
      | (with_reducible exact r1Cut.mono _ _ _)
      | (with_reducible exact r1Low.mono _ _)
      | (with_reducible exact r1Pars.mono _ _)
      | (with_reducible exact r4RC.mono _ _ _ _ _)
      | (with_reducible exact LeO.refl _)
      | (with_reducible exact LeO.none _)
      | (with_reducible refine LeO.ite ?_ ?_)
      | (with_reducible refine LeO.bind ?_ (fun _ => ?_))
      | exact ih0 _ _ _ _ _ _ _
      | exact ih1 _ _ _ _ _ _
      | exact ih2 _ _ _ _ _
      | exact r1Cut.mono _ _ _
      | exact r1Low.mono _ _
      | exact r1Pars.mono _ _
      | exact r4RC.mono _ _ _ _ _
      | exact LeO.none _
      | refine LeO.ite ?_ ?_
      | refine LeO.bind ?_ (fun _ => ?_)
theorem r4Cont.mono : ∀ a0 k, LeO (r4Cont.f k a0) (r4Cont.f (k + 1) a0) := by
  intro a0 k
  obtain ⟨ih0, ih1, ih2⟩ := r4Cont.mono_l k
  unfold r4Cont.f
  repeat' first
      | (with_reducible exact ih0 _ _ _ _ _ _ _)
      | (with_reducible exact ih1 _ _ _ _ _ _)
      | (with_reducible exact ih2 _ _ _ _ _)
      | (with_reducible exact r1Cut.mono _ _ _)
      | (with_reducible exact r1Low.mono _ _)
      | (with_reducible exact r1Pars.mono _ _)
      | (with_reducible exact r4RC.mono _ _ _ _ _)
      | (with_reducible exact LeO.refl _)
      | (with_reducible exact LeO.none _)
      | (with_reducible refine LeO.ite ?_ ?_)
      | (with_reducible refine LeO.bind ?_ (fun _ => ?_))
      | exact ih0 _ _ _ _ _ _ _
      | exact ih1 _ _ _ _ _ _
      | exact ih2 _ _ _ _ _
      | exact r1Cut.mono _ _ _
      | exact r1Low.mono _ _
      | exact r1Pars.mono _ _
      | exact r4RC.mono _ _ _ _ _
      | exact LeO.none _
      | refine LeO.ite ?_ ?_
      | refine LeO.bind ?_ (fun _ => ?_)
set_option maxHeartbeats 8000000 in
set_option maxRecDepth 100000 in
theorem r4Cont.calls (k : Nat) (a0 : ByteArray) (r1 : Bool) (r2 : Int) (r3 : Int) (r4 : Int) (r5 : Int) (w : World) (h : r4Cont.f k a0 = some (r1, r2, r3, r4, r5)) :
    Calls Try.prog 70 #[.string a0] w fun e w' => e = .returned (.tuple #[.agg #[.bool r1, .int .i64 r2, .int .i64 r3, .int .i64 r4], .int .i64 r5]) ∧ Below w.heap.size w w' := by
  have hu91 := Try.underlying91
  have hu28 := Try.underlying28
  have HB := AsZ.mk (Below.refl w.heap.size w)
  have H : ((r1Cut.f k a0 32).bind fun bt408 => ((r1Cut.f k bt408.2.1 47).bind fun bt411 => (if bt408.2.2 = true then (if bt411.2.2 = true then ((r1Low.f k bt408.1).bind fun t414 => (r4Cont.j0 k bt411.1 bt411.2.1 (t414.toList != ([98, 121, 116, 101, 115] : List UInt8)) false 0 0 (-1))) else (r4Cont.j0 k bt411.1 bt411.2.1 true false 0 0 (-1))) else (r4Cont.j0 k bt411.1 bt411.2.1 true false 0 0 (-1))))) = some (r1, r2, r3, r4, r5) := h
  clear h
  replace H := Option.bind_eq_some_iff.mp H
  obtain ⟨⟨t408, t409, t410⟩, A20, H⟩ := H
  replace H : ((r1Cut.f k t409 47).bind fun bt411 => (if t410 = true then (if bt411.2.2 = true then ((r1Low.f k t408).bind fun t414 => (r4Cont.j0 k bt411.1 bt411.2.1 (t414.toList != ([98, 121, 116, 101, 115] : List UInt8)) false 0 0 (-1))) else (r4Cont.j0 k bt411.1 bt411.2.1 true false 0 0 (-1))) else (r4Cont.j0 k bt411.1 bt411.2.1 true false 0 0 (-1)))) = some (r1, r2, r3, r4, r5) := H
  have A2 := AsZ.mk A20
  clear A20
  replace H := Option.bind_eq_some_iff.mp H
  obtain ⟨⟨t411, t412, t413⟩, A30, H⟩ := H
  replace H : (if t410 = true then (if t413 = true then ((r1Low.f k t408).bind fun t414 => (r4Cont.j0 k t411 t412 (t414.toList != ([98, 121, 116, 101, 115] : List UInt8)) false 0 0 (-1))) else (r4Cont.j0 k t411 t412 true false 0 0 (-1))) else (r4Cont.j0 k t411 t412 true false 0 0 (-1))) = some (r1, r2, r3, r4, r5) := H
  have A3 := AsZ.mk A30
  clear A30
  have HC4 := AsZ.mk H
  clear H
  go_enter Try.func70, Try.ntmps70
  go_upto_region 4 with (first | ((with_reducible refine gDs (N := 2) rfl ?_); refine bEv ?hg (N := 2) ?hd (cs := #[.bool false, .int .i64 0, .int .i64 0, .int .i64 0]) (t := 91) ?hr ?_; (case hd => rfl); (case hg => rfl); (case hr => first | (go_simp; done) | (go_simp; rfl)); intro gb406 hg w5 hbox hb; have n0_ := AsZ.mk (tBl (by repeat (first | (with_reducible first | exact HB.out | apply aBl | apply pBd | apply dBl) | exact HB.out)) hb); have n1_ := AsZ.mk (hbox); have n2_ := AsZ.mk ((by rw [hg]; exact (zBl (by repeat (first | (with_reducible first | exact HB.out | apply aBl | apply pBd | apply dBl) | exact HB.out))) : w.heap.size ≤ gb406)); have n3_ := AsZ.mk ((by rw [hg]; exact (zBl (by repeat (first | (with_reducible first | exact HB.out | apply aBl | apply pBd | apply dBl) | exact HB.out))) : w.heap.size ≤ gb406)); clear HB; have HB := n0_; have BK406 := n1_; have GW406 := n2_; have GE406 := n3_; clear n0_ n1_ n2_ n3_; clear hb hbox hg) | ((with_reducible refine gDs (N := 4) rfl ?_); refine bEv ?hg (N := 4) ?hd (cs := #[.bool false, .int .i64 0, .int .i64 0, .int .i64 0]) (t := 91) ?hr ?_; (case hd => rfl); (case hg => rfl); (case hr => first | (go_simp; done) | (go_simp; rfl)); intro gb407 hg w6 hbox hb; have n0_ := AsZ.mk (bBl (g := gb406) (o := .cells #[.bool false, .int .i64 0, .int .i64 0, .int .i64 0] 91 (0, 0)) (by (with_reducible repeat (first | refine bDn ?_ _ | refine bDr ?_ | refine bAl ?_ _)); exact BK406.out) hb); have n1_ := AsZ.mk (tBl (by repeat (first | (with_reducible first | exact HB.out | apply aBl | apply pBd | apply dBl | refine sBl ?_ GE406.out) | exact HB.out)) hb); have n2_ := AsZ.mk (hbox); have n3_ := AsZ.mk ((by rw [hg]; exact (zBl (by repeat (first | (with_reducible first | exact HB.out | apply aBl | apply pBd | apply dBl | refine sBl ?_ GE406.out) | exact HB.out))) : w.heap.size ≤ gb407)); have n4_ := AsZ.mk ((by rw [hg]; exact (zBl (by repeat (first | (with_reducible first | exact HB.out | apply aBl | apply pBd | apply dBl | refine sBl ?_ GE406.out) | exact HB.out))) : w.heap.size ≤ gb407)); have n5_ := AsZ.mk ((by rw [hg]; exact Nat.ne_of_lt (bLt (g := gb406) (o := .cells #[.bool false, .int .i64 0, .int .i64 0, .int .i64 0] 91 (0, 0)) (by (with_reducible repeat (first | refine bDn ?_ _ | refine bDr ?_ | refine bAl ?_ _)); exact BK406.out)) : gb406 ≠ gb407)); have n6_ := AsZ.mk ((by rw [hg]; exact Nat.ne_of_gt (bLt (g := gb406) (o := .cells #[.bool false, .int .i64 0, .int .i64 0, .int .i64 0] 91 (0, 0)) (by (with_reducible repeat (first | refine bDn ?_ _ | refine bDr ?_ | refine bAl ?_ _)); exact BK406.out)) : gb407 ≠ gb406)); clear BK406; clear HB; have BK406 := n0_; have HB := n1_; have BK407 := n2_; have GW407 := n3_; have GE407 := n4_; have NB406_407 := n5_; have NB407_406 := n6_; clear n0_ n1_ n2_ n3_ n4_ n5_ n6_; clear hb hbox hg; have hnb7 := NB407_406.out; have hnc7 := NB406_407.out; have hcz8_0 : w6.cell? ⟨gb407, 0, none⟩ = some (.bool false) := (bCe BK407.out 0).trans rfl; have hcz8_1 : w6.cell? ⟨gb407, 1, none⟩ = some (.int .i64 0) := (bCe BK407.out 1).trans rfl; have hcz8_2 : w6.cell? ⟨gb407, 2, none⟩ = some (.int .i64 0) := (bCe BK407.out 2).trans rfl; have hcz8_3 : w6.cell? ⟨gb407, 3, none⟩ = some (.int .i64 0) := (bCe BK407.out 3).trans rfl; have hfz8_0 := bFz BK407.out 0; have hfz8_1 := bFz BK407.out 1; have hfz8_2 := bFz BK407.out 2; have hfz8_3 := bFz BK407.out 3) | ((with_reducible refine gCa (f := 76) rfl ?_); refine gLl (some 24) rfl rfl Try.func76 (by kernel_rfl) rfl #[.string a0, .int .u8 32] rfl (by (try simp only [List.map_toArray, List.map_cons, List.map_nil]); first | done | rfl | (simp only [List.length_drop, List.length_take]; rfl)) ?_; (with_reducible refine (r1Cut.calls k a0 32 t408 t409 t410 _ A2.out).mono ?_); rintro e w' ⟨rfl, ⟨nd, rfl⟩⟩; refine ⟨_, rfl, ?_⟩) | ((with_reducible refine gCa (f := 76) rfl ?_); refine gLl (some 30) rfl rfl Try.func76 (by kernel_rfl) rfl #[.string t409, .int .u8 47] rfl (by (try simp only [List.map_toArray, List.map_cons, List.map_nil]); first | done | rfl | (simp only [List.length_drop, List.length_take]; rfl)) ?_; (with_reducible refine (r1Cut.calls k t409 47 t411 t412 t413 _ A3.out).mono ?_); rintro e w' ⟨rfl, ⟨nd, rfl⟩⟩; refine ⟨_, rfl, ?_⟩))
  (try simp only [Act.put, List.setIfInBounds_toArray, List.set_cons_zero, List.set_cons_succ])
  go_cut [44] (fun v44 wc => ∃ (kq : Nat) (x44_3 : Bool), v44 = .bool x44_3 ∧ AsZ (r4Cont.j0 kq t411 t412 x44_3 false 0 0 (-1) = some (r1, r2, r3, r4, r5)) ∧ AsZ (kq ≤ k) ∧ AsZ (wc.heap[gb406]? = some (.cells #[.bool false, .int .i64 0, .int .i64 0, .int .i64 0] 91 (0, 0))) ∧ AsZ (wc.heap[gb407]? = some (.cells #[.bool false, .int .i64 0, .int .i64 0, .int .i64 (-1)] 91 (0, 0))) ∧ AsZ (Below w.heap.size w wc))
  case first =>
    have H := HC4.out
    clear HC4
    by_cases c9 : t410 = true
    · subst c9
      have H1 : (if t413 = true then ((r1Low.f k t408).bind fun t414 => (r4Cont.j0 k t411 t412 (t414.toList != ([98, 121, 116, 101, 115] : List UInt8)) false 0 0 (-1))) else (r4Cont.j0 k t411 t412 true false 0 0 (-1))) = some (r1, r2, r3, r4, r5) := by rw [if_pos rfl] at H; exact H
      clear H
      have H := H1
      clear H1
      by_cases c10 : t413 = true
      · subst c10
        have H1 : ((r1Low.f k t408).bind fun t414 => (r4Cont.j0 k t411 t412 (t414.toList != ([98, 121, 116, 101, 115] : List UInt8)) false 0 0 (-1))) = some (r1, r2, r3, r4, r5) := by rw [if_pos rfl] at H; exact H
        clear H
        have H := H1
        clear H1
        replace H := Option.bind_eq_some_iff.mp H
        obtain ⟨t414, A110, H⟩ := H
        replace H : (r4Cont.j0 k t411 t412 (t414.toList != ([98, 121, 116, 101, 115] : List UInt8)) false 0 0 (-1)) = some (r1, r2, r3, r4, r5) := H
        have A11 := AsZ.mk A110
        clear A110
        have H' := AsZ.mk H
        clear H
        go_wp2_with (first | (go_at_call 77; (with_reducible refine (r1Low.calls k t408 t414 _ A11.out).mono ?_); rintro e w12 ⟨rfl, hb⟩; have n0_ := AsZ.mk (bBl (g := gb406) (o := .cells #[.bool false, .int .i64 0, .int .i64 0, .int .i64 0] 91 (0, 0)) (by (with_reducible repeat (first | refine bDn ?_ _ | refine bDr ?_ | refine bAl ?_ _)); refine bFr ?_ NB406_407.out _; (with_reducible repeat (first | refine bDn ?_ _ | refine bDr ?_ | refine bAl ?_ _)); refine bFr ?_ NB406_407.out _; (with_reducible repeat (first | refine bDn ?_ _ | refine bDr ?_ | refine bAl ?_ _)); refine bFr ?_ NB406_407.out _; (with_reducible repeat (first | refine bDn ?_ _ | refine bDr ?_ | refine bAl ?_ _)); refine bFr ?_ NB406_407.out _; (with_reducible repeat (first | refine bDn ?_ _ | refine bDr ?_ | refine bAl ?_ _)); exact BK406.out) hb); have n1_ := AsZ.mk (bBl (g := gb407) (o := .cells #[.bool false, .int .i64 0, .int .i64 0, .int .i64 (-1)] 91 (0, 0)) (by (with_reducible repeat (first | refine bDn ?_ _ | refine bDr ?_ | refine bAl ?_ _)); refine bPu (cs := #[.bool false, .int .i64 0, .int .i64 0, .int .i64 0]) ?_ 3 _ rfl; (with_reducible repeat (first | refine bDn ?_ _ | refine bDr ?_ | refine bAl ?_ _)); refine bPu (cs := #[.bool false, .int .i64 0, .int .i64 0, .int .i64 0]) ?_ 2 _ rfl; (with_reducible repeat (first | refine bDn ?_ _ | refine bDr ?_ | refine bAl ?_ _)); refine bPu (cs := #[.bool false, .int .i64 0, .int .i64 0, .int .i64 0]) ?_ 1 _ rfl; (with_reducible repeat (first | refine bDn ?_ _ | refine bDr ?_ | refine bAl ?_ _)); refine bPu (cs := #[.bool false, .int .i64 0, .int .i64 0, .int .i64 0]) ?_ 0 _ rfl; (with_reducible repeat (first | refine bDn ?_ _ | refine bDr ?_ | refine bAl ?_ _)); exact BK407.out) hb); have n2_ := AsZ.mk (tBl (by repeat (first | (with_reducible first | exact HB.out | apply aBl | apply pBd | apply dBl | refine sBl ?_ GE406.out | refine sBl ?_ GE407.out) | exact HB.out)) hb); clear BK406; clear BK407; clear HB; have BK406 := n0_; have BK407 := n1_; have HB := n2_; clear n0_ n1_ n2_; (try clear hb); (try clear hb2); (try clear hk); (try clear hi)))
        go_meet
        case rel => exact ⟨_, ((t414.toList != ([98, 121, 116, 101, 115] : List UInt8))), (by first | rfl | (simp; done) | (simp [*]; done)), H', ⟨by first | omega | exact Nat.le_refl _⟩, ⟨by (with_reducible repeat (first | refine bDn ?_ _ | refine bDr ?_ | refine bAl ?_ _)); exact BK406.out⟩, ⟨by (with_reducible repeat (first | refine bDn ?_ _ | refine bDr ?_ | refine bAl ?_ _)); exact BK407.out⟩, ⟨by repeat (first | (with_reducible first | exact HB.out | apply aBl | apply pBd | apply dBl | refine sBl ?_ GE406.out | refine sBl ?_ GE407.out) | exact HB.out)⟩⟩
      · replace c10 := Bool.eq_false_iff.mpr c10
        subst c10
        have H1 : (r4Cont.j0 k t411 t412 true false 0 0 (-1)) = some (r1, r2, r3, r4, r5) := by rw [if_neg (show ¬ (false = true) by decide)] at H; exact H
        clear H
        have H := H1
        clear H1
        have H' := AsZ.mk H
        clear H
        go_wp2
        go_meet
        case rel => exact ⟨_, (true), (by first | rfl | (simp; done) | (simp [*]; done)), H', ⟨by first | omega | exact Nat.le_refl _⟩, ⟨by (with_reducible repeat (first | refine bDn ?_ _ | refine bDr ?_ | refine bAl ?_ _)); refine bFr ?_ NB406_407.out _; (with_reducible repeat (first | refine bDn ?_ _ | refine bDr ?_ | refine bAl ?_ _)); refine bFr ?_ NB406_407.out _; (with_reducible repeat (first | refine bDn ?_ _ | refine bDr ?_ | refine bAl ?_ _)); refine bFr ?_ NB406_407.out _; (with_reducible repeat (first | refine bDn ?_ _ | refine bDr ?_ | refine bAl ?_ _)); refine bFr ?_ NB406_407.out _; (with_reducible repeat (first | refine bDn ?_ _ | refine bDr ?_ | refine bAl ?_ _)); exact BK406.out⟩, ⟨by (with_reducible repeat (first | refine bDn ?_ _ | refine bDr ?_ | refine bAl ?_ _)); refine bPu (cs := #[.bool false, .int .i64 0, .int .i64 0, .int .i64 0]) ?_ 3 _ rfl; (with_reducible repeat (first | refine bDn ?_ _ | refine bDr ?_ | refine bAl ?_ _)); refine bPu (cs := #[.bool false, .int .i64 0, .int .i64 0, .int .i64 0]) ?_ 2 _ rfl; (with_reducible repeat (first | refine bDn ?_ _ | refine bDr ?_ | refine bAl ?_ _)); refine bPu (cs := #[.bool false, .int .i64 0, .int .i64 0, .int .i64 0]) ?_ 1 _ rfl; (with_reducible repeat (first | refine bDn ?_ _ | refine bDr ?_ | refine bAl ?_ _)); refine bPu (cs := #[.bool false, .int .i64 0, .int .i64 0, .int .i64 0]) ?_ 0 _ rfl; (with_reducible repeat (first | refine bDn ?_ _ | refine bDr ?_ | refine bAl ?_ _)); exact BK407.out⟩, ⟨by repeat (first | (with_reducible first | exact HB.out | apply aBl | apply pBd | apply dBl | refine sBl ?_ GE406.out | refine sBl ?_ GE407.out) | exact HB.out)⟩⟩
    · replace c9 := Bool.eq_false_iff.mpr c9
      subst c9
      have H1 : (r4Cont.j0 k t411 t412 true false 0 0 (-1)) = some (r1, r2, r3, r4, r5) := by rw [if_neg (show ¬ (false = true) by decide)] at H; exact H
      clear H
      have H := H1
      clear H1
      have H' := AsZ.mk H
      clear H
      go_wp2
      go_meet
      case rel => exact ⟨_, (true), (by first | rfl | (simp; done) | (simp [*]; done)), H', ⟨by first | omega | exact Nat.le_refl _⟩, ⟨by (with_reducible repeat (first | refine bDn ?_ _ | refine bDr ?_ | refine bAl ?_ _)); refine bFr ?_ NB406_407.out _; (with_reducible repeat (first | refine bDn ?_ _ | refine bDr ?_ | refine bAl ?_ _)); refine bFr ?_ NB406_407.out _; (with_reducible repeat (first | refine bDn ?_ _ | refine bDr ?_ | refine bAl ?_ _)); refine bFr ?_ NB406_407.out _; (with_reducible repeat (first | refine bDn ?_ _ | refine bDr ?_ | refine bAl ?_ _)); refine bFr ?_ NB406_407.out _; (with_reducible repeat (first | refine bDn ?_ _ | refine bDr ?_ | refine bAl ?_ _)); exact BK406.out⟩, ⟨by (with_reducible repeat (first | refine bDn ?_ _ | refine bDr ?_ | refine bAl ?_ _)); refine bPu (cs := #[.bool false, .int .i64 0, .int .i64 0, .int .i64 0]) ?_ 3 _ rfl; (with_reducible repeat (first | refine bDn ?_ _ | refine bDr ?_ | refine bAl ?_ _)); refine bPu (cs := #[.bool false, .int .i64 0, .int .i64 0, .int .i64 0]) ?_ 2 _ rfl; (with_reducible repeat (first | refine bDn ?_ _ | refine bDr ?_ | refine bAl ?_ _)); refine bPu (cs := #[.bool false, .int .i64 0, .int .i64 0, .int .i64 0]) ?_ 1 _ rfl; (with_reducible repeat (first | refine bDn ?_ _ | refine bDr ?_ | refine bAl ?_ _)); refine bPu (cs := #[.bool false, .int .i64 0, .int .i64 0, .int .i64 0]) ?_ 0 _ rfl; (with_reducible repeat (first | refine bDn ?_ _ | refine bDr ?_ | refine bAl ?_ _)); exact BK407.out⟩, ⟨by repeat (first | (with_reducible first | exact HB.out | apply aBl | apply pBd | apply dBl | refine sBl ?_ GE406.out | refine sBl ?_ GE407.out) | exact HB.out)⟩⟩
  case rest =>
    clear HC4
    try clear c1
    try clear p2
    try clear c7
    try clear c9
    try clear c10
    try clear hcz8_0
    try clear hcz8_1
    try clear hcz8_2
    try clear hcz8_3
    try clear hfz8_0
    try clear hfz8_1
    try clear hfz8_2
    try clear hfz8_3
    obtain ⟨kq, x44_3, rfl, HA, HJ3, BK406, BK407, HB⟩ := hcut
    cases kq with
    | zero => exact absurd HA.out (by simp [r4Cont.j0])
    | succ kj3 =>
      have H := HA.out
      clear HA
      simp only [r4Cont.j0] at H
      by_cases c13 : x44_3 = true
      · subst c13
        have H1 : (some (false, 0, 0, 0, 3)) = some (r1, r2, r3, r4, r5) := by rw [if_pos rfl] at H; exact H
        clear H
        have H := H1
        clear H1
        simp only [Option.some.injEq, Prod.mk.injEq] at H
        obtain ⟨rfl, rfl, rfl, rfl, rfl⟩ := H
        have hnb14 := NB406_407.out
        have hnc14 := NB407_406.out
        have hcz15_0 : wc.cell? ⟨gb406, 0, none⟩ = some (.bool false) := (bCe BK406.out 0).trans rfl
        have hcz15_1 : wc.cell? ⟨gb406, 1, none⟩ = some (.int .i64 0) := (bCe BK406.out 1).trans rfl
        have hcz15_2 : wc.cell? ⟨gb406, 2, none⟩ = some (.int .i64 0) := (bCe BK406.out 2).trans rfl
        have hcz15_3 : wc.cell? ⟨gb406, 3, none⟩ = some (.int .i64 0) := (bCe BK406.out 3).trans rfl
        have hfz15_0 := bFz BK406.out 0
        have hfz15_1 := bFz BK406.out 1
        have hfz15_2 := bFz BK406.out 2
        have hfz15_3 := bFz BK406.out 3
        go_wp2
        refine bodyPost_ret (results_ct rfl _ _ gb406 91 #[.bool false, .int .i64 0, .int .i64 0, .int .i64 0] (0, 0) _ rfl (by (with_reducible repeat (first | refine bDn ?_ _ | refine bDr ?_ | refine bAl ?_ _)); refine bPu (cs := #[.bool false, .int .i64 0, .int .i64 0, .int .i64 0]) ?_ 3 _ rfl; (with_reducible repeat (first | refine bDn ?_ _ | refine bDr ?_ | refine bAl ?_ _)); refine bPu (cs := #[.bool false, .int .i64 0, .int .i64 0, .int .i64 0]) ?_ 2 _ rfl; (with_reducible repeat (first | refine bDn ?_ _ | refine bDr ?_ | refine bAl ?_ _)); refine bPu (cs := #[.bool false, .int .i64 0, .int .i64 0, .int .i64 0]) ?_ 1 _ rfl; (with_reducible repeat (first | refine bDn ?_ _ | refine bDr ?_ | refine bAl ?_ _)); refine bPu (cs := #[.bool false, .int .i64 0, .int .i64 0, .int .i64 0]) ?_ 0 _ rfl; (with_reducible repeat (first | refine bDn ?_ _ | refine bDr ?_ | refine bAl ?_ _)); exact BK406.out) Try.underlying91 rfl (by kernel_rfl)) rfl ?_
        exact ⟨by first | rfl | exact nEm _ | exact eEm _ | (simp [eWn, eWs] <;> rfl) | (simp [*, eWn, eWs] <;> rfl), by repeat (first | (with_reducible first | exact HB.out | apply aBl | apply pBd | apply dBl | refine sBl ?_ GE406.out | refine sBl ?_ GE407.out) | exact HB.out)⟩
      · replace c13 := Bool.eq_false_iff.mpr c13
        subst c13
        have H1 : (if t411.toList = ([42] : List UInt8) then (r4Cont.j1 kj3 t412 false false 0 0 (-1)) else ((r1Cut.f kj3 t411 45).bind fun bt415 => ((r1Pars.f kj3 bt415.1).bind fun bt418 => ((r1Pars.f kj3 bt415.2.1).bind fun bt420 => (if bt415.2.2 = true then (if bt418.2 = 3 then (some (false, 0, 0, 0, 3)) else (if bt420.2 = 3 then (some (false, 0, 0, 0, 3)) else (if bt418.2 = 0 then (r4Cont.j1 kj3 t412 (bt420.2 != 0) true bt418.1 (wrap64 (bt420.1 + 1)) (-1)) else (r4Cont.j1 kj3 t412 true true bt418.1 (wrap64 (bt420.1 + 1)) (-1))))) else (some (false, 0, 0, 0, 3))))))) = some (r1, r2, r3, r4, r5) := by rw [if_neg (show ¬ (false = true) by decide)] at H; exact H
        clear H
        have H := H1
        clear H1
        have HC16 := AsZ.mk H
        clear H
        go_upto_if 47 with (fail)
        go_cut [11] (fun v11 wc => ∃ (kq : Nat) (x11_15 : Bool) (x407000_15 : Bool) (x407001_15 : Int) (x407002_15 : Int) (x407003_15 : Int) (x408000_15 : Bool) (x408001_15 : Int) (x408002_15 : Int), v11 = .bool x11_15 ∧ AsZ (r4Cont.j1 kq t412 x11_15 x408000_15 x408001_15 x408002_15 (-1) = some (r1, r2, r3, r4, r5)) ∧ AsZ (kq ≤ kj3) ∧ AsZ (wc.heap[gb406]? = some (.cells #[.bool x407000_15, .int .i64 x407001_15, .int .i64 x407002_15, .int .i64 x407003_15] 91 (0, 0))) ∧ AsZ (wc.heap[gb407]? = some (.cells #[.bool x408000_15, .int .i64 x408001_15, .int .i64 x408002_15, .int .i64 (-1)] 91 (0, 0))) ∧ AsZ (Below w.heap.size w wc))
        case first =>
          have H := HC16.out
          clear HC16
          by_cases c17 : t411.toList = ([42] : List UInt8)
          · rw [if_pos c17] at H
            have c17b0 : (t411.toList == ([42] : List UInt8)) = true := beq_iff_eq.mpr c17
            have c17b1 : (t411.toList != ([42] : List UInt8)) = false := bne_eq_false_iff_eq.mpr c17
            clear c17
            (first | rw [c17b0] | (simp only [i64_w, i32_w]; rw [c17b0]) | skip)
            have H' := AsZ.mk H
            clear H
            go_wp2
            go_meet
            case rel => exact ⟨_, (false), (false), (0), (0), (0), (false), (0), (0), (by first | rfl | (simp; done) | (simp [*]; done)), H', ⟨by have := HJ3.out; first | omega | exact Nat.le_refl _⟩, ⟨by (with_reducible repeat (first | refine bDn ?_ _ | refine bDr ?_ | refine bAl ?_ _)); exact BK406.out⟩, ⟨by (with_reducible repeat (first | refine bDn ?_ _ | refine bDr ?_ | refine bAl ?_ _)); exact BK407.out⟩, ⟨by repeat (first | (with_reducible first | exact HB.out | apply aBl | apply pBd | apply dBl | refine sBl ?_ GE406.out | refine sBl ?_ GE407.out) | exact HB.out)⟩⟩
          · rw [if_neg c17] at H
            have c17b0 : (t411.toList == ([42] : List UInt8)) = false := beq_eq_false_iff_ne.mpr c17
            have c17b1 : (t411.toList != ([42] : List UInt8)) = true := bne_iff_ne.mpr c17
            (first | rw [c17b0] | (simp only [i64_w, i32_w]; rw [c17b0]) | skip)
            replace H := Option.bind_eq_some_iff.mp H
            obtain ⟨⟨t415, t416, t417⟩, A180, H⟩ := H
            replace H : ((r1Pars.f kj3 t415).bind fun bt418 => ((r1Pars.f kj3 t416).bind fun bt420 => (if t417 = true then (if bt418.2 = 3 then (some (false, 0, 0, 0, 3)) else (if bt420.2 = 3 then (some (false, 0, 0, 0, 3)) else (if bt418.2 = 0 then (r4Cont.j1 kj3 t412 (bt420.2 != 0) true bt418.1 (wrap64 (bt420.1 + 1)) (-1)) else (r4Cont.j1 kj3 t412 true true bt418.1 (wrap64 (bt420.1 + 1)) (-1))))) else (some (false, 0, 0, 0, 3))))) = some (r1, r2, r3, r4, r5) := H
            have A18 := AsZ.mk A180
            clear A180
            replace H := Option.bind_eq_some_iff.mp H
            obtain ⟨⟨t418, t419⟩, A190, H⟩ := H
            replace H : ((r1Pars.f kj3 t416).bind fun bt420 => (if t417 = true then (if t419 = 3 then (some (false, 0, 0, 0, 3)) else (if bt420.2 = 3 then (some (false, 0, 0, 0, 3)) else (if t419 = 0 then (r4Cont.j1 kj3 t412 (bt420.2 != 0) true t418 (wrap64 (bt420.1 + 1)) (-1)) else (r4Cont.j1 kj3 t412 true true t418 (wrap64 (bt420.1 + 1)) (-1))))) else (some (false, 0, 0, 0, 3)))) = some (r1, r2, r3, r4, r5) := H
            have A19 := AsZ.mk A190
            clear A190
            replace H := Option.bind_eq_some_iff.mp H
            obtain ⟨⟨t420, t421⟩, A200, H⟩ := H
            replace H : (if t417 = true then (if t419 = 3 then (some (false, 0, 0, 0, 3)) else (if t421 = 3 then (some (false, 0, 0, 0, 3)) else (if t419 = 0 then (r4Cont.j1 kj3 t412 (t421 != 0) true t418 (wrap64 (t420 + 1)) (-1)) else (r4Cont.j1 kj3 t412 true true t418 (wrap64 (t420 + 1)) (-1))))) else (some (false, 0, 0, 0, 3))) = some (r1, r2, r3, r4, r5) := H
            have A20 := AsZ.mk A200
            clear A200
            by_cases c21 : t417 = true
            · subst c21
              have H1 : (if t419 = 3 then (some (false, 0, 0, 0, 3)) else (if t421 = 3 then (some (false, 0, 0, 0, 3)) else (if t419 = 0 then (r4Cont.j1 kj3 t412 (t421 != 0) true t418 (wrap64 (t420 + 1)) (-1)) else (r4Cont.j1 kj3 t412 true true t418 (wrap64 (t420 + 1)) (-1))))) = some (r1, r2, r3, r4, r5) := by rw [if_pos rfl] at H; exact H
              clear H
              have H := H1
              clear H1
              by_cases c22 : t419 = 3
              · rw [if_pos c22] at H
                have c22b0 : (t419 == 3) = true := beq_iff_eq.mpr c22
                have c22b1 : (t419 != 3) = false := bne_eq_false_iff_eq.mpr c22
                clear c22
                simp only [Option.some.injEq, Prod.mk.injEq] at H
                obtain ⟨rfl, rfl, rfl, rfl, rfl⟩ := H
                go_wp2_with (first | ((with_reducible refine gCa (f := 76) rfl ?_); refine gLl (some 50) rfl rfl Try.func76 (by kernel_rfl) rfl #[.string t411, .int .u8 45] rfl (by (try simp only [List.map_toArray, List.map_cons, List.map_nil]); first | done | rfl | (simp only [List.length_drop, List.length_take]; rfl)) ?_; (with_reducible refine (r1Cut.calls kj3 t411 45 t415 t416 true _ A18.out).mono ?_); rintro e w' ⟨rfl, ⟨nd, rfl⟩⟩; refine ⟨_, rfl, ?_⟩; (try (rw [drewN_self wc]; generalize hq_ : World.drewN wc _ = wc; have n0_ : AsZ (wc.heap[gb406]? = some (.cells #[.bool false, .int .i64 0, .int .i64 0, .int .i64 0] 91 (0, 0))) := ⟨by rw [← hq_]; exact (by (with_reducible repeat (first | refine bDn ?_ _ | refine bDr ?_ | refine bAl ?_ _)); exact BK406.out)⟩; have n1_ : AsZ (wc.heap[gb407]? = some (.cells #[.bool false, .int .i64 0, .int .i64 0, .int .i64 (-1)] 91 (0, 0))) := ⟨by rw [← hq_]; exact (by (with_reducible repeat (first | refine bDn ?_ _ | refine bDr ?_ | refine bAl ?_ _)); exact BK407.out)⟩; have n2_ : AsZ (Below w.heap.size w wc) := ⟨by rw [← hq_]; exact (by repeat (first | (with_reducible first | exact HB.out | apply aBl | apply pBd | apply dBl | refine sBl ?_ GE406.out | refine sBl ?_ GE407.out) | exact HB.out))⟩; clear BK406 BK407 HB hq_; have BK406 := n0_; have BK407 := n1_; have HB := n2_; clear n0_ n1_ n2_))) | ((with_reducible refine gCa (f := 78) rfl ?_); refine gLl (some 56) rfl rfl Try.func78 (by kernel_rfl) rfl #[.string t415] rfl (by (try simp only [List.map_toArray, List.map_cons, List.map_nil]); first | done | rfl | (simp only [List.length_drop, List.length_take]; rfl)) ?_; (with_reducible refine (r1Pars.calls kj3 t415 t418 t419 _ A19.out).mono ?_); rintro e w' ⟨rfl, ⟨nd, rfl⟩⟩; refine ⟨_, rfl, ?_⟩; (try (rw [drewN_self wc]; generalize hq_ : World.drewN wc _ = wc; have n0_ : AsZ (wc.heap[gb406]? = some (.cells #[.bool false, .int .i64 0, .int .i64 0, .int .i64 0] 91 (0, 0))) := ⟨by rw [← hq_]; exact (by (with_reducible repeat (first | refine bDn ?_ _ | refine bDr ?_ | refine bAl ?_ _)); exact BK406.out)⟩; have n1_ : AsZ (wc.heap[gb407]? = some (.cells #[.bool false, .int .i64 0, .int .i64 0, .int .i64 (-1)] 91 (0, 0))) := ⟨by rw [← hq_]; exact (by (with_reducible repeat (first | refine bDn ?_ _ | refine bDr ?_ | refine bAl ?_ _)); exact BK407.out)⟩; have n2_ : AsZ (Below w.heap.size w wc) := ⟨by rw [← hq_]; exact (by repeat (first | (with_reducible first | exact HB.out | apply aBl | apply pBd | apply dBl | refine sBl ?_ GE406.out | refine sBl ?_ GE407.out) | exact HB.out))⟩; clear BK406 BK407 HB hq_; have BK406 := n0_; have BK407 := n1_; have HB := n2_; clear n0_ n1_ n2_))) | ((with_reducible refine gCa (f := 78) rfl ?_); refine gLl (some 61) rfl rfl Try.func78 (by kernel_rfl) rfl #[.string t416] rfl (by (try simp only [List.map_toArray, List.map_cons, List.map_nil]); first | done | rfl | (simp only [List.length_drop, List.length_take]; rfl)) ?_; (with_reducible refine (r1Pars.calls kj3 t416 t420 t421 _ A20.out).mono ?_); rintro e w' ⟨rfl, ⟨nd, rfl⟩⟩; refine ⟨_, rfl, ?_⟩; (try (rw [drewN_self wc]; generalize hq_ : World.drewN wc _ = wc; have n0_ : AsZ (wc.heap[gb406]? = some (.cells #[.bool false, .int .i64 0, .int .i64 0, .int .i64 0] 91 (0, 0))) := ⟨by rw [← hq_]; exact (by (with_reducible repeat (first | refine bDn ?_ _ | refine bDr ?_ | refine bAl ?_ _)); exact BK406.out)⟩; have n1_ : AsZ (wc.heap[gb407]? = some (.cells #[.bool false, .int .i64 0, .int .i64 0, .int .i64 (-1)] 91 (0, 0))) := ⟨by rw [← hq_]; exact (by (with_reducible repeat (first | refine bDn ?_ _ | refine bDr ?_ | refine bAl ?_ _)); exact BK407.out)⟩; have n2_ : AsZ (Below w.heap.size w wc) := ⟨by rw [← hq_]; exact (by repeat (first | (with_reducible first | exact HB.out | apply aBl | apply pBd | apply dBl | refine sBl ?_ GE406.out | refine sBl ?_ GE407.out) | exact HB.out))⟩; clear BK406 BK407 HB hq_; have BK406 := n0_; have BK407 := n1_; have HB := n2_; clear n0_ n1_ n2_)); have hnb23 := NB406_407.out; have hnc23 := NB407_406.out; have hcz24_0 : wc.cell? ⟨gb406, 0, none⟩ = some (.bool false) := (bCe BK406.out 0).trans rfl; have hcz24_1 : wc.cell? ⟨gb406, 1, none⟩ = some (.int .i64 0) := (bCe BK406.out 1).trans rfl; have hcz24_2 : wc.cell? ⟨gb406, 2, none⟩ = some (.int .i64 0) := (bCe BK406.out 2).trans rfl; have hcz24_3 : wc.cell? ⟨gb406, 3, none⟩ = some (.int .i64 0) := (bCe BK406.out 3).trans rfl; have hfz24_0 := bFz BK406.out 0; have hfz24_1 := bFz BK406.out 1; have hfz24_2 := bFz BK406.out 2; have hfz24_3 := bFz BK406.out 3))
                refine bodyPost_ret (results_ct rfl _ _ gb406 91 #[.bool false, .int .i64 0, .int .i64 0, .int .i64 0] (0, 0) _ rfl (by (with_reducible repeat (first | refine bDn ?_ _ | refine bDr ?_ | refine bAl ?_ _)); refine bPu (cs := #[.bool false, .int .i64 0, .int .i64 0, .int .i64 0]) ?_ 3 _ rfl; (with_reducible repeat (first | refine bDn ?_ _ | refine bDr ?_ | refine bAl ?_ _)); refine bPu (cs := #[.bool false, .int .i64 0, .int .i64 0, .int .i64 0]) ?_ 2 _ rfl; (with_reducible repeat (first | refine bDn ?_ _ | refine bDr ?_ | refine bAl ?_ _)); refine bPu (cs := #[.bool false, .int .i64 0, .int .i64 0, .int .i64 0]) ?_ 1 _ rfl; (with_reducible repeat (first | refine bDn ?_ _ | refine bDr ?_ | refine bAl ?_ _)); refine bPu (cs := #[.bool false, .int .i64 0, .int .i64 0, .int .i64 0]) ?_ 0 _ rfl; (with_reducible repeat (first | refine bDn ?_ _ | refine bDr ?_ | refine bAl ?_ _)); exact BK406.out) Try.underlying91 rfl (by kernel_rfl)) rfl ?_
                exact ⟨by first | rfl | exact nEm _ | exact eEm _ | (simp [eWn, eWs] <;> rfl) | (simp [*, eWn, eWs] <;> rfl), by repeat (first | (with_reducible first | exact HB.out | apply aBl | apply pBd | apply dBl | refine sBl ?_ GE406.out | refine sBl ?_ GE407.out) | exact HB.out)⟩
              · rw [if_neg c22] at H
                have c22b0 : (t419 == 3) = false := beq_eq_false_iff_ne.mpr c22
                have c22b1 : (t419 != 3) = true := bne_iff_ne.mpr c22
                by_cases c25 : t421 = 3
                · rw [if_pos c25] at H
                  have c25b0 : (t421 == 3) = true := beq_iff_eq.mpr c25
                  have c25b1 : (t421 != 3) = false := bne_eq_false_iff_eq.mpr c25
                  clear c25
                  simp only [Option.some.injEq, Prod.mk.injEq] at H
                  obtain ⟨rfl, rfl, rfl, rfl, rfl⟩ := H
                  go_wp2_with (first | ((with_reducible refine gCa (f := 76) rfl ?_); refine gLl (some 50) rfl rfl Try.func76 (by kernel_rfl) rfl #[.string t411, .int .u8 45] rfl (by (try simp only [List.map_toArray, List.map_cons, List.map_nil]); first | done | rfl | (simp only [List.length_drop, List.length_take]; rfl)) ?_; (with_reducible refine (r1Cut.calls kj3 t411 45 t415 t416 true _ A18.out).mono ?_); rintro e w' ⟨rfl, ⟨nd, rfl⟩⟩; refine ⟨_, rfl, ?_⟩; (try (rw [drewN_self wc]; generalize hq_ : World.drewN wc _ = wc; have n0_ : AsZ (wc.heap[gb406]? = some (.cells #[.bool false, .int .i64 0, .int .i64 0, .int .i64 0] 91 (0, 0))) := ⟨by rw [← hq_]; exact (by (with_reducible repeat (first | refine bDn ?_ _ | refine bDr ?_ | refine bAl ?_ _)); exact BK406.out)⟩; have n1_ : AsZ (wc.heap[gb407]? = some (.cells #[.bool false, .int .i64 0, .int .i64 0, .int .i64 (-1)] 91 (0, 0))) := ⟨by rw [← hq_]; exact (by (with_reducible repeat (first | refine bDn ?_ _ | refine bDr ?_ | refine bAl ?_ _)); exact BK407.out)⟩; have n2_ : AsZ (Below w.heap.size w wc) := ⟨by rw [← hq_]; exact (by repeat (first | (with_reducible first | exact HB.out | apply aBl | apply pBd | apply dBl | refine sBl ?_ GE406.out | refine sBl ?_ GE407.out) | exact HB.out))⟩; clear BK406 BK407 HB hq_; have BK406 := n0_; have BK407 := n1_; have HB := n2_; clear n0_ n1_ n2_))) | ((with_reducible refine gCa (f := 78) rfl ?_); refine gLl (some 56) rfl rfl Try.func78 (by kernel_rfl) rfl #[.string t415] rfl (by (try simp only [List.map_toArray, List.map_cons, List.map_nil]); first | done | rfl | (simp only [List.length_drop, List.length_take]; rfl)) ?_; (with_reducible refine (r1Pars.calls kj3 t415 t418 t419 _ A19.out).mono ?_); rintro e w' ⟨rfl, ⟨nd, rfl⟩⟩; refine ⟨_, rfl, ?_⟩; (try (rw [drewN_self wc]; generalize hq_ : World.drewN wc _ = wc; have n0_ : AsZ (wc.heap[gb406]? = some (.cells #[.bool false, .int .i64 0, .int .i64 0, .int .i64 0] 91 (0, 0))) := ⟨by rw [← hq_]; exact (by (with_reducible repeat (first | refine bDn ?_ _ | refine bDr ?_ | refine bAl ?_ _)); exact BK406.out)⟩; have n1_ : AsZ (wc.heap[gb407]? = some (.cells #[.bool false, .int .i64 0, .int .i64 0, .int .i64 (-1)] 91 (0, 0))) := ⟨by rw [← hq_]; exact (by (with_reducible repeat (first | refine bDn ?_ _ | refine bDr ?_ | refine bAl ?_ _)); exact BK407.out)⟩; have n2_ : AsZ (Below w.heap.size w wc) := ⟨by rw [← hq_]; exact (by repeat (first | (with_reducible first | exact HB.out | apply aBl | apply pBd | apply dBl | refine sBl ?_ GE406.out | refine sBl ?_ GE407.out) | exact HB.out))⟩; clear BK406 BK407 HB hq_; have BK406 := n0_; have BK407 := n1_; have HB := n2_; clear n0_ n1_ n2_))) | ((with_reducible refine gCa (f := 78) rfl ?_); refine gLl (some 61) rfl rfl Try.func78 (by kernel_rfl) rfl #[.string t416] rfl (by (try simp only [List.map_toArray, List.map_cons, List.map_nil]); first | done | rfl | (simp only [List.length_drop, List.length_take]; rfl)) ?_; (with_reducible refine (r1Pars.calls kj3 t416 t420 t421 _ A20.out).mono ?_); rintro e w' ⟨rfl, ⟨nd, rfl⟩⟩; refine ⟨_, rfl, ?_⟩; (try (rw [drewN_self wc]; generalize hq_ : World.drewN wc _ = wc; have n0_ : AsZ (wc.heap[gb406]? = some (.cells #[.bool false, .int .i64 0, .int .i64 0, .int .i64 0] 91 (0, 0))) := ⟨by rw [← hq_]; exact (by (with_reducible repeat (first | refine bDn ?_ _ | refine bDr ?_ | refine bAl ?_ _)); exact BK406.out)⟩; have n1_ : AsZ (wc.heap[gb407]? = some (.cells #[.bool false, .int .i64 0, .int .i64 0, .int .i64 (-1)] 91 (0, 0))) := ⟨by rw [← hq_]; exact (by (with_reducible repeat (first | refine bDn ?_ _ | refine bDr ?_ | refine bAl ?_ _)); exact BK407.out)⟩; have n2_ : AsZ (Below w.heap.size w wc) := ⟨by rw [← hq_]; exact (by repeat (first | (with_reducible first | exact HB.out | apply aBl | apply pBd | apply dBl | refine sBl ?_ GE406.out | refine sBl ?_ GE407.out) | exact HB.out))⟩; clear BK406 BK407 HB hq_; have BK406 := n0_; have BK407 := n1_; have HB := n2_; clear n0_ n1_ n2_)); have hnb26 := NB406_407.out; have hnc26 := NB407_406.out; have hcz27_0 : wc.cell? ⟨gb406, 0, none⟩ = some (.bool false) := (bCe BK406.out 0).trans rfl; have hcz27_1 : wc.cell? ⟨gb406, 1, none⟩ = some (.int .i64 0) := (bCe BK406.out 1).trans rfl; have hcz27_2 : wc.cell? ⟨gb406, 2, none⟩ = some (.int .i64 0) := (bCe BK406.out 2).trans rfl; have hcz27_3 : wc.cell? ⟨gb406, 3, none⟩ = some (.int .i64 0) := (bCe BK406.out 3).trans rfl; have hfz27_0 := bFz BK406.out 0; have hfz27_1 := bFz BK406.out 1; have hfz27_2 := bFz BK406.out 2; have hfz27_3 := bFz BK406.out 3))
                  refine bodyPost_ret (results_ct rfl _ _ gb406 91 #[.bool false, .int .i64 0, .int .i64 0, .int .i64 0] (0, 0) _ rfl (by (with_reducible repeat (first | refine bDn ?_ _ | refine bDr ?_ | refine bAl ?_ _)); refine bPu (cs := #[.bool false, .int .i64 0, .int .i64 0, .int .i64 0]) ?_ 3 _ rfl; (with_reducible repeat (first | refine bDn ?_ _ | refine bDr ?_ | refine bAl ?_ _)); refine bPu (cs := #[.bool false, .int .i64 0, .int .i64 0, .int .i64 0]) ?_ 2 _ rfl; (with_reducible repeat (first | refine bDn ?_ _ | refine bDr ?_ | refine bAl ?_ _)); refine bPu (cs := #[.bool false, .int .i64 0, .int .i64 0, .int .i64 0]) ?_ 1 _ rfl; (with_reducible repeat (first | refine bDn ?_ _ | refine bDr ?_ | refine bAl ?_ _)); refine bPu (cs := #[.bool false, .int .i64 0, .int .i64 0, .int .i64 0]) ?_ 0 _ rfl; (with_reducible repeat (first | refine bDn ?_ _ | refine bDr ?_ | refine bAl ?_ _)); exact BK406.out) Try.underlying91 rfl (by kernel_rfl)) rfl ?_
                  exact ⟨by first | rfl | exact nEm _ | exact eEm _ | (simp [eWn, eWs] <;> rfl) | (simp [*, eWn, eWs] <;> rfl), by repeat (first | (with_reducible first | exact HB.out | apply aBl | apply pBd | apply dBl | refine sBl ?_ GE406.out | refine sBl ?_ GE407.out) | exact HB.out)⟩
                · rw [if_neg c25] at H
                  have c25b0 : (t421 == 3) = false := beq_eq_false_iff_ne.mpr c25
                  have c25b1 : (t421 != 3) = true := bne_iff_ne.mpr c25
                  by_cases c28 : t419 = 0
                  · rw [if_pos c28] at H
                    have c28b0 : (t419 == 0) = true := beq_iff_eq.mpr c28
                    have c28b1 : (t419 != 0) = false := bne_eq_false_iff_eq.mpr c28
                    clear c28
                    have H' := AsZ.mk H
                    clear H
                    go_wp2_with (first | ((with_reducible refine gCa (f := 76) rfl ?_); refine gLl (some 50) rfl rfl Try.func76 (by kernel_rfl) rfl #[.string t411, .int .u8 45] rfl (by (try simp only [List.map_toArray, List.map_cons, List.map_nil]); first | done | rfl | (simp only [List.length_drop, List.length_take]; rfl)) ?_; (with_reducible refine (r1Cut.calls kj3 t411 45 t415 t416 true _ A18.out).mono ?_); rintro e w' ⟨rfl, ⟨nd, rfl⟩⟩; refine ⟨_, rfl, ?_⟩; (try (rw [drewN_self wc]; generalize hq_ : World.drewN wc _ = wc; have n0_ : AsZ (wc.heap[gb406]? = some (.cells #[.bool false, .int .i64 0, .int .i64 0, .int .i64 0] 91 (0, 0))) := ⟨by rw [← hq_]; exact (by (with_reducible repeat (first | refine bDn ?_ _ | refine bDr ?_ | refine bAl ?_ _)); exact BK406.out)⟩; have n1_ : AsZ (wc.heap[gb407]? = some (.cells #[.bool false, .int .i64 0, .int .i64 0, .int .i64 (-1)] 91 (0, 0))) := ⟨by rw [← hq_]; exact (by (with_reducible repeat (first | refine bDn ?_ _ | refine bDr ?_ | refine bAl ?_ _)); exact BK407.out)⟩; have n2_ : AsZ (Below w.heap.size w wc) := ⟨by rw [← hq_]; exact (by repeat (first | (with_reducible first | exact HB.out | apply aBl | apply pBd | apply dBl | refine sBl ?_ GE406.out | refine sBl ?_ GE407.out) | exact HB.out))⟩; clear BK406 BK407 HB hq_; have BK406 := n0_; have BK407 := n1_; have HB := n2_; clear n0_ n1_ n2_))) | ((with_reducible refine gCa (f := 78) rfl ?_); refine gLl (some 56) rfl rfl Try.func78 (by kernel_rfl) rfl #[.string t415] rfl (by (try simp only [List.map_toArray, List.map_cons, List.map_nil]); first | done | rfl | (simp only [List.length_drop, List.length_take]; rfl)) ?_; (with_reducible refine (r1Pars.calls kj3 t415 t418 t419 _ A19.out).mono ?_); rintro e w' ⟨rfl, ⟨nd, rfl⟩⟩; refine ⟨_, rfl, ?_⟩; (try (rw [drewN_self wc]; generalize hq_ : World.drewN wc _ = wc; have n0_ : AsZ (wc.heap[gb406]? = some (.cells #[.bool false, .int .i64 0, .int .i64 0, .int .i64 0] 91 (0, 0))) := ⟨by rw [← hq_]; exact (by (with_reducible repeat (first | refine bDn ?_ _ | refine bDr ?_ | refine bAl ?_ _)); exact BK406.out)⟩; have n1_ : AsZ (wc.heap[gb407]? = some (.cells #[.bool false, .int .i64 0, .int .i64 0, .int .i64 (-1)] 91 (0, 0))) := ⟨by rw [← hq_]; exact (by (with_reducible repeat (first | refine bDn ?_ _ | refine bDr ?_ | refine bAl ?_ _)); exact BK407.out)⟩; have n2_ : AsZ (Below w.heap.size w wc) := ⟨by rw [← hq_]; exact (by repeat (first | (with_reducible first | exact HB.out | apply aBl | apply pBd | apply dBl | refine sBl ?_ GE406.out | refine sBl ?_ GE407.out) | exact HB.out))⟩; clear BK406 BK407 HB hq_; have BK406 := n0_; have BK407 := n1_; have HB := n2_; clear n0_ n1_ n2_))) | ((with_reducible refine gCa (f := 78) rfl ?_); refine gLl (some 61) rfl rfl Try.func78 (by kernel_rfl) rfl #[.string t416] rfl (by (try simp only [List.map_toArray, List.map_cons, List.map_nil]); first | done | rfl | (simp only [List.length_drop, List.length_take]; rfl)) ?_; (with_reducible refine (r1Pars.calls kj3 t416 t420 t421 _ A20.out).mono ?_); rintro e w' ⟨rfl, ⟨nd, rfl⟩⟩; refine ⟨_, rfl, ?_⟩; (try (rw [drewN_self wc]; generalize hq_ : World.drewN wc _ = wc; have n0_ : AsZ (wc.heap[gb406]? = some (.cells #[.bool false, .int .i64 0, .int .i64 0, .int .i64 0] 91 (0, 0))) := ⟨by rw [← hq_]; exact (by (with_reducible repeat (first | refine bDn ?_ _ | refine bDr ?_ | refine bAl ?_ _)); exact BK406.out)⟩; have n1_ : AsZ (wc.heap[gb407]? = some (.cells #[.bool false, .int .i64 0, .int .i64 0, .int .i64 (-1)] 91 (0, 0))) := ⟨by rw [← hq_]; exact (by (with_reducible repeat (first | refine bDn ?_ _ | refine bDr ?_ | refine bAl ?_ _)); exact BK407.out)⟩; have n2_ : AsZ (Below w.heap.size w wc) := ⟨by rw [← hq_]; exact (by repeat (first | (with_reducible first | exact HB.out | apply aBl | apply pBd | apply dBl | refine sBl ?_ GE406.out | refine sBl ?_ GE407.out) | exact HB.out))⟩; clear BK406 BK407 HB hq_; have BK406 := n0_; have BK407 := n1_; have HB := n2_; clear n0_ n1_ n2_)); have hnb29 := NB407_406.out; have hnc29 := NB406_407.out; have hcz30_0 : wc.cell? ⟨gb407, 0, none⟩ = some (.bool false) := (bCe BK407.out 0).trans rfl; have hcz30_1 : wc.cell? ⟨gb407, 1, none⟩ = some (.int .i64 0) := (bCe BK407.out 1).trans rfl; have hcz30_2 : wc.cell? ⟨gb407, 2, none⟩ = some (.int .i64 0) := (bCe BK407.out 2).trans rfl; have hcz30_3 : wc.cell? ⟨gb407, 3, none⟩ = some (.int .i64 (-1)) := (bCe BK407.out 3).trans rfl; have hfz30_0 := bFz BK407.out 0; have hfz30_1 := bFz BK407.out 1; have hfz30_2 := bFz BK407.out 2; have hfz30_3 := bFz BK407.out 3))
                    go_meet
                    case rel => exact ⟨_, ((t421 != 0)), (false), (0), (0), (0), (true), (t418), (wrap64 (t420 + 1)), (by first | rfl | (simp; done) | (simp [*]; done)), H', ⟨by have := HJ3.out; first | omega | exact Nat.le_refl _⟩, ⟨by (with_reducible repeat (first | refine bDn ?_ _ | refine bDr ?_ | refine bAl ?_ _)); refine bFr ?_ NB406_407.out _; (with_reducible repeat (first | refine bDn ?_ _ | refine bDr ?_ | refine bAl ?_ _)); refine bFr ?_ NB406_407.out _; (with_reducible repeat (first | refine bDn ?_ _ | refine bDr ?_ | refine bAl ?_ _)); refine bFr ?_ NB406_407.out _; (with_reducible repeat (first | refine bDn ?_ _ | refine bDr ?_ | refine bAl ?_ _)); exact BK406.out⟩, ⟨by (with_reducible repeat (first | refine bDn ?_ _ | refine bDr ?_ | refine bAl ?_ _)); refine bPu (cs := #[.bool true, .int .i64 t418, .int .i64 0, .int .i64 (-1)]) ?_ 2 _ rfl; (with_reducible repeat (first | refine bDn ?_ _ | refine bDr ?_ | refine bAl ?_ _)); refine bPu (cs := #[.bool true, .int .i64 0, .int .i64 0, .int .i64 (-1)]) ?_ 1 _ rfl; (with_reducible repeat (first | refine bDn ?_ _ | refine bDr ?_ | refine bAl ?_ _)); refine bPu (cs := #[.bool false, .int .i64 0, .int .i64 0, .int .i64 (-1)]) ?_ 0 _ rfl; (with_reducible repeat (first | refine bDn ?_ _ | refine bDr ?_ | refine bAl ?_ _)); exact BK407.out⟩, ⟨by repeat (first | (with_reducible first | exact HB.out | apply aBl | apply pBd | apply dBl | refine sBl ?_ GE406.out | refine sBl ?_ GE407.out) | exact HB.out)⟩⟩
                  · rw [if_neg c28] at H
                    have c28b0 : (t419 == 0) = false := beq_eq_false_iff_ne.mpr c28
                    have c28b1 : (t419 != 0) = true := bne_iff_ne.mpr c28
                    have H' := AsZ.mk H
                    clear H
                    go_wp2_with (first | ((with_reducible refine gCa (f := 76) rfl ?_); refine gLl (some 50) rfl rfl Try.func76 (by kernel_rfl) rfl #[.string t411, .int .u8 45] rfl (by (try simp only [List.map_toArray, List.map_cons, List.map_nil]); first | done | rfl | (simp only [List.length_drop, List.length_take]; rfl)) ?_; (with_reducible refine (r1Cut.calls kj3 t411 45 t415 t416 true _ A18.out).mono ?_); rintro e w' ⟨rfl, ⟨nd, rfl⟩⟩; refine ⟨_, rfl, ?_⟩; (try (rw [drewN_self wc]; generalize hq_ : World.drewN wc _ = wc; have n0_ : AsZ (wc.heap[gb406]? = some (.cells #[.bool false, .int .i64 0, .int .i64 0, .int .i64 0] 91 (0, 0))) := ⟨by rw [← hq_]; exact (by (with_reducible repeat (first | refine bDn ?_ _ | refine bDr ?_ | refine bAl ?_ _)); exact BK406.out)⟩; have n1_ : AsZ (wc.heap[gb407]? = some (.cells #[.bool false, .int .i64 0, .int .i64 0, .int .i64 (-1)] 91 (0, 0))) := ⟨by rw [← hq_]; exact (by (with_reducible repeat (first | refine bDn ?_ _ | refine bDr ?_ | refine bAl ?_ _)); exact BK407.out)⟩; have n2_ : AsZ (Below w.heap.size w wc) := ⟨by rw [← hq_]; exact (by repeat (first | (with_reducible first | exact HB.out | apply aBl | apply pBd | apply dBl | refine sBl ?_ GE406.out | refine sBl ?_ GE407.out) | exact HB.out))⟩; clear BK406 BK407 HB hq_; have BK406 := n0_; have BK407 := n1_; have HB := n2_; clear n0_ n1_ n2_))) | ((with_reducible refine gCa (f := 78) rfl ?_); refine gLl (some 56) rfl rfl Try.func78 (by kernel_rfl) rfl #[.string t415] rfl (by (try simp only [List.map_toArray, List.map_cons, List.map_nil]); first | done | rfl | (simp only [List.length_drop, List.length_take]; rfl)) ?_; (with_reducible refine (r1Pars.calls kj3 t415 t418 t419 _ A19.out).mono ?_); rintro e w' ⟨rfl, ⟨nd, rfl⟩⟩; refine ⟨_, rfl, ?_⟩; (try (rw [drewN_self wc]; generalize hq_ : World.drewN wc _ = wc; have n0_ : AsZ (wc.heap[gb406]? = some (.cells #[.bool false, .int .i64 0, .int .i64 0, .int .i64 0] 91 (0, 0))) := ⟨by rw [← hq_]; exact (by (with_reducible repeat (first | refine bDn ?_ _ | refine bDr ?_ | refine bAl ?_ _)); exact BK406.out)⟩; have n1_ : AsZ (wc.heap[gb407]? = some (.cells #[.bool false, .int .i64 0, .int .i64 0, .int .i64 (-1)] 91 (0, 0))) := ⟨by rw [← hq_]; exact (by (with_reducible repeat (first | refine bDn ?_ _ | refine bDr ?_ | refine bAl ?_ _)); exact BK407.out)⟩; have n2_ : AsZ (Below w.heap.size w wc) := ⟨by rw [← hq_]; exact (by repeat (first | (with_reducible first | exact HB.out | apply aBl | apply pBd | apply dBl | refine sBl ?_ GE406.out | refine sBl ?_ GE407.out) | exact HB.out))⟩; clear BK406 BK407 HB hq_; have BK406 := n0_; have BK407 := n1_; have HB := n2_; clear n0_ n1_ n2_))) | ((with_reducible refine gCa (f := 78) rfl ?_); refine gLl (some 61) rfl rfl Try.func78 (by kernel_rfl) rfl #[.string t416] rfl (by (try simp only [List.map_toArray, List.map_cons, List.map_nil]); first | done | rfl | (simp only [List.length_drop, List.length_take]; rfl)) ?_; (with_reducible refine (r1Pars.calls kj3 t416 t420 t421 _ A20.out).mono ?_); rintro e w' ⟨rfl, ⟨nd, rfl⟩⟩; refine ⟨_, rfl, ?_⟩; (try (rw [drewN_self wc]; generalize hq_ : World.drewN wc _ = wc; have n0_ : AsZ (wc.heap[gb406]? = some (.cells #[.bool false, .int .i64 0, .int .i64 0, .int .i64 0] 91 (0, 0))) := ⟨by rw [← hq_]; exact (by (with_reducible repeat (first | refine bDn ?_ _ | refine bDr ?_ | refine bAl ?_ _)); exact BK406.out)⟩; have n1_ : AsZ (wc.heap[gb407]? = some (.cells #[.bool false, .int .i64 0, .int .i64 0, .int .i64 (-1)] 91 (0, 0))) := ⟨by rw [← hq_]; exact (by (with_reducible repeat (first | refine bDn ?_ _ | refine bDr ?_ | refine bAl ?_ _)); exact BK407.out)⟩; have n2_ : AsZ (Below w.heap.size w wc) := ⟨by rw [← hq_]; exact (by repeat (first | (with_reducible first | exact HB.out | apply aBl | apply pBd | apply dBl | refine sBl ?_ GE406.out | refine sBl ?_ GE407.out) | exact HB.out))⟩; clear BK406 BK407 HB hq_; have BK406 := n0_; have BK407 := n1_; have HB := n2_; clear n0_ n1_ n2_)); have hnb31 := NB407_406.out; have hnc31 := NB406_407.out; have hcz32_0 : wc.cell? ⟨gb407, 0, none⟩ = some (.bool false) := (bCe BK407.out 0).trans rfl; have hcz32_1 : wc.cell? ⟨gb407, 1, none⟩ = some (.int .i64 0) := (bCe BK407.out 1).trans rfl; have hcz32_2 : wc.cell? ⟨gb407, 2, none⟩ = some (.int .i64 0) := (bCe BK407.out 2).trans rfl; have hcz32_3 : wc.cell? ⟨gb407, 3, none⟩ = some (.int .i64 (-1)) := (bCe BK407.out 3).trans rfl; have hfz32_0 := bFz BK407.out 0; have hfz32_1 := bFz BK407.out 1; have hfz32_2 := bFz BK407.out 2; have hfz32_3 := bFz BK407.out 3))
                    go_meet
                    case rel => exact ⟨_, (true), (false), (0), (0), (0), (true), (t418), (wrap64 (t420 + 1)), (by first | rfl | (simp; done) | (simp [*]; done)), H', ⟨by have := HJ3.out; first | omega | exact Nat.le_refl _⟩, ⟨by (with_reducible repeat (first | refine bDn ?_ _ | refine bDr ?_ | refine bAl ?_ _)); refine bFr ?_ NB406_407.out _; (with_reducible repeat (first | refine bDn ?_ _ | refine bDr ?_ | refine bAl ?_ _)); refine bFr ?_ NB406_407.out _; (with_reducible repeat (first | refine bDn ?_ _ | refine bDr ?_ | refine bAl ?_ _)); refine bFr ?_ NB406_407.out _; (with_reducible repeat (first | refine bDn ?_ _ | refine bDr ?_ | refine bAl ?_ _)); exact BK406.out⟩, ⟨by (with_reducible repeat (first | refine bDn ?_ _ | refine bDr ?_ | refine bAl ?_ _)); refine bPu (cs := #[.bool true, .int .i64 t418, .int .i64 0, .int .i64 (-1)]) ?_ 2 _ rfl; (with_reducible repeat (first | refine bDn ?_ _ | refine bDr ?_ | refine bAl ?_ _)); refine bPu (cs := #[.bool true, .int .i64 0, .int .i64 0, .int .i64 (-1)]) ?_ 1 _ rfl; (with_reducible repeat (first | refine bDn ?_ _ | refine bDr ?_ | refine bAl ?_ _)); refine bPu (cs := #[.bool false, .int .i64 0, .int .i64 0, .int .i64 (-1)]) ?_ 0 _ rfl; (with_reducible repeat (first | refine bDn ?_ _ | refine bDr ?_ | refine bAl ?_ _)); exact BK407.out⟩, ⟨by repeat (first | (with_reducible first | exact HB.out | apply aBl | apply pBd | apply dBl | refine sBl ?_ GE406.out | refine sBl ?_ GE407.out) | exact HB.out)⟩⟩
            · replace c21 := Bool.eq_false_iff.mpr c21
              subst c21
              have H1 : (some (false, 0, 0, 0, 3)) = some (r1, r2, r3, r4, r5) := by rw [if_neg (show ¬ (false = true) by decide)] at H; exact H
              clear H
              have H := H1
              clear H1
              simp only [Option.some.injEq, Prod.mk.injEq] at H
              obtain ⟨rfl, rfl, rfl, rfl, rfl⟩ := H
              go_wp2_with (first | ((with_reducible refine gCa (f := 76) rfl ?_); refine gLl (some 50) rfl rfl Try.func76 (by kernel_rfl) rfl #[.string t411, .int .u8 45] rfl (by (try simp only [List.map_toArray, List.map_cons, List.map_nil]); first | done | rfl | (simp only [List.length_drop, List.length_take]; rfl)) ?_; (with_reducible refine (r1Cut.calls kj3 t411 45 t415 t416 false _ A18.out).mono ?_); rintro e w' ⟨rfl, ⟨nd, rfl⟩⟩; refine ⟨_, rfl, ?_⟩; (try (rw [drewN_self wc]; generalize hq_ : World.drewN wc _ = wc; have n0_ : AsZ (wc.heap[gb406]? = some (.cells #[.bool false, .int .i64 0, .int .i64 0, .int .i64 0] 91 (0, 0))) := ⟨by rw [← hq_]; exact (by (with_reducible repeat (first | refine bDn ?_ _ | refine bDr ?_ | refine bAl ?_ _)); exact BK406.out)⟩; have n1_ : AsZ (wc.heap[gb407]? = some (.cells #[.bool false, .int .i64 0, .int .i64 0, .int .i64 (-1)] 91 (0, 0))) := ⟨by rw [← hq_]; exact (by (with_reducible repeat (first | refine bDn ?_ _ | refine bDr ?_ | refine bAl ?_ _)); exact BK407.out)⟩; have n2_ : AsZ (Below w.heap.size w wc) := ⟨by rw [← hq_]; exact (by repeat (first | (with_reducible first | exact HB.out | apply aBl | apply pBd | apply dBl | refine sBl ?_ GE406.out | refine sBl ?_ GE407.out) | exact HB.out))⟩; clear BK406 BK407 HB hq_; have BK406 := n0_; have BK407 := n1_; have HB := n2_; clear n0_ n1_ n2_))) | ((with_reducible refine gCa (f := 78) rfl ?_); refine gLl (some 56) rfl rfl Try.func78 (by kernel_rfl) rfl #[.string t415] rfl (by (try simp only [List.map_toArray, List.map_cons, List.map_nil]); first | done | rfl | (simp only [List.length_drop, List.length_take]; rfl)) ?_; (with_reducible refine (r1Pars.calls kj3 t415 t418 t419 _ A19.out).mono ?_); rintro e w' ⟨rfl, ⟨nd, rfl⟩⟩; refine ⟨_, rfl, ?_⟩; (try (rw [drewN_self wc]; generalize hq_ : World.drewN wc _ = wc; have n0_ : AsZ (wc.heap[gb406]? = some (.cells #[.bool false, .int .i64 0, .int .i64 0, .int .i64 0] 91 (0, 0))) := ⟨by rw [← hq_]; exact (by (with_reducible repeat (first | refine bDn ?_ _ | refine bDr ?_ | refine bAl ?_ _)); exact BK406.out)⟩; have n1_ : AsZ (wc.heap[gb407]? = some (.cells #[.bool false, .int .i64 0, .int .i64 0, .int .i64 (-1)] 91 (0, 0))) := ⟨by rw [← hq_]; exact (by (with_reducible repeat (first | refine bDn ?_ _ | refine bDr ?_ | refine bAl ?_ _)); exact BK407.out)⟩; have n2_ : AsZ (Below w.heap.size w wc) := ⟨by rw [← hq_]; exact (by repeat (first | (with_reducible first | exact HB.out | apply aBl | apply pBd | apply dBl | refine sBl ?_ GE406.out | refine sBl ?_ GE407.out) | exact HB.out))⟩; clear BK406 BK407 HB hq_; have BK406 := n0_; have BK407 := n1_; have HB := n2_; clear n0_ n1_ n2_))) | ((with_reducible refine gCa (f := 78) rfl ?_); refine gLl (some 61) rfl rfl Try.func78 (by kernel_rfl) rfl #[.string t416] rfl (by (try simp only [List.map_toArray, List.map_cons, List.map_nil]); first | done | rfl | (simp only [List.length_drop, List.length_take]; rfl)) ?_; (with_reducible refine (r1Pars.calls kj3 t416 t420 t421 _ A20.out).mono ?_); rintro e w' ⟨rfl, ⟨nd, rfl⟩⟩; refine ⟨_, rfl, ?_⟩; (try (rw [drewN_self wc]; generalize hq_ : World.drewN wc _ = wc; have n0_ : AsZ (wc.heap[gb406]? = some (.cells #[.bool false, .int .i64 0, .int .i64 0, .int .i64 0] 91 (0, 0))) := ⟨by rw [← hq_]; exact (by (with_reducible repeat (first | refine bDn ?_ _ | refine bDr ?_ | refine bAl ?_ _)); exact BK406.out)⟩; have n1_ : AsZ (wc.heap[gb407]? = some (.cells #[.bool false, .int .i64 0, .int .i64 0, .int .i64 (-1)] 91 (0, 0))) := ⟨by rw [← hq_]; exact (by (with_reducible repeat (first | refine bDn ?_ _ | refine bDr ?_ | refine bAl ?_ _)); exact BK407.out)⟩; have n2_ : AsZ (Below w.heap.size w wc) := ⟨by rw [← hq_]; exact (by repeat (first | (with_reducible first | exact HB.out | apply aBl | apply pBd | apply dBl | refine sBl ?_ GE406.out | refine sBl ?_ GE407.out) | exact HB.out))⟩; clear BK406 BK407 HB hq_; have BK406 := n0_; have BK407 := n1_; have HB := n2_; clear n0_ n1_ n2_)); have hnb33 := NB406_407.out; have hnc33 := NB407_406.out; have hcz34_0 : wc.cell? ⟨gb406, 0, none⟩ = some (.bool false) := (bCe BK406.out 0).trans rfl; have hcz34_1 : wc.cell? ⟨gb406, 1, none⟩ = some (.int .i64 0) := (bCe BK406.out 1).trans rfl; have hcz34_2 : wc.cell? ⟨gb406, 2, none⟩ = some (.int .i64 0) := (bCe BK406.out 2).trans rfl; have hcz34_3 : wc.cell? ⟨gb406, 3, none⟩ = some (.int .i64 0) := (bCe BK406.out 3).trans rfl; have hfz34_0 := bFz BK406.out 0; have hfz34_1 := bFz BK406.out 1; have hfz34_2 := bFz BK406.out 2; have hfz34_3 := bFz BK406.out 3))
              refine bodyPost_ret (results_ct rfl _ _ gb406 91 #[.bool false, .int .i64 0, .int .i64 0, .int .i64 0] (0, 0) _ rfl (by (with_reducible repeat (first | refine bDn ?_ _ | refine bDr ?_ | refine bAl ?_ _)); refine bPu (cs := #[.bool false, .int .i64 0, .int .i64 0, .int .i64 0]) ?_ 3 _ rfl; (with_reducible repeat (first | refine bDn ?_ _ | refine bDr ?_ | refine bAl ?_ _)); refine bPu (cs := #[.bool false, .int .i64 0, .int .i64 0, .int .i64 0]) ?_ 2 _ rfl; (with_reducible repeat (first | refine bDn ?_ _ | refine bDr ?_ | refine bAl ?_ _)); refine bPu (cs := #[.bool false, .int .i64 0, .int .i64 0, .int .i64 0]) ?_ 1 _ rfl; (with_reducible repeat (first | refine bDn ?_ _ | refine bDr ?_ | refine bAl ?_ _)); refine bPu (cs := #[.bool false, .int .i64 0, .int .i64 0, .int .i64 0]) ?_ 0 _ rfl; (with_reducible repeat (first | refine bDn ?_ _ | refine bDr ?_ | refine bAl ?_ _)); exact BK406.out) Try.underlying91 rfl (by kernel_rfl)) rfl ?_
              exact ⟨by first | rfl | exact nEm _ | exact eEm _ | (simp [eWn, eWs] <;> rfl) | (simp [*, eWn, eWs] <;> rfl), by repeat (first | (with_reducible first | exact HB.out | apply aBl | apply pBd | apply dBl | refine sBl ?_ GE406.out | refine sBl ?_ GE407.out) | exact HB.out)⟩
        case rest =>
          clear HC16
          try clear c1
          try clear c2
          try clear p2
          try clear c3
          try clear p6
          try clear c7
          try clear c9
          try clear c10
          try clear c13
          try clear c14
          try clear c17
          try clear c17b0
          try clear c17b1
          try clear c21
          try clear c22
          try clear c22b0
          try clear c22b1
          try clear c23
          try clear c25
          try clear c25b0
          try clear c25b1
          try clear c26
          try clear c28
          try clear c28b0
          try clear c28b1
          try clear c29
          try clear c31
          try clear c33
          try clear hcz15_0
          try clear hcz15_1
          try clear hcz15_2
          try clear hcz15_3
          try clear hcz24_0
          try clear hcz24_1
          try clear hcz24_2
          try clear hcz24_3
          try clear hcz27_0
          try clear hcz27_1
          try clear hcz27_2
          try clear hcz27_3
          try clear hcz30_0
          try clear hcz30_1
          try clear hcz30_2
          try clear hcz30_3
          try clear hcz32_0
          try clear hcz32_1
          try clear hcz32_2
          try clear hcz32_3
          try clear hcz34_0
          try clear hcz34_1
          try clear hcz34_2
          try clear hcz34_3
          try clear hcz8_0
          try clear hcz8_1
          try clear hcz8_2
          try clear hcz8_3
          try clear hfz15_0
          try clear hfz15_1
          try clear hfz15_2
          try clear hfz15_3
          try clear hfz24_0
          try clear hfz24_1
          try clear hfz24_2
          try clear hfz24_3
          try clear hfz27_0
          try clear hfz27_1
          try clear hfz27_2
          try clear hfz27_3
          try clear hfz30_0
          try clear hfz30_1
          try clear hfz30_2
          try clear hfz30_3
          try clear hfz32_0
          try clear hfz32_1
          try clear hfz32_2
          try clear hfz32_3
          try clear hfz34_0
          try clear hfz34_1
          try clear hfz34_2
          try clear hfz34_3
          try clear hfz8_0
          try clear hfz8_1
          try clear hfz8_2
          try clear hfz8_3
          try clear p2
          obtain ⟨kq, x11_15, x407000_15, x407001_15, x407002_15, x407003_15, x408000_15, x408001_15, x408002_15, rfl, HA, HJ15, BK406, BK407, HB⟩ := hcut
          cases kq with
          | zero => exact absurd HA.out (by simp [r4Cont.j1])
          | succ kj15 =>
            have H := HA.out
            clear HA
            simp only [r4Cont.j1] at H
            have HC35 := AsZ.mk H
            clear H
            go_upto_if 88 with (fail)
            go_cut [11] (fun v11 wc => ∃ (kq : Nat) (x11_34 : Bool) (x407000_34 : Bool) (x407001_34 : Int) (x407002_34 : Int) (x407003_34 : Int) (x408003_34 : Int), v11 = .bool x11_34 ∧ AsZ (r4Cont.j2 kq x11_34 x408000_15 x408001_15 x408002_15 x408003_34 = some (r1, r2, r3, r4, r5)) ∧ AsZ (kq ≤ kj15) ∧ AsZ (wc.heap[gb406]? = some (.cells #[.bool x407000_34, .int .i64 x407001_34, .int .i64 x407002_34, .int .i64 x407003_34] 91 (0, 0))) ∧ AsZ (wc.heap[gb407]? = some (.cells #[.bool x408000_15, .int .i64 x408001_15, .int .i64 x408002_15, .int .i64 x408003_34] 91 (0, 0))) ∧ AsZ (Below w.heap.size w wc))
            case first =>
              have H := HC35.out
              clear HC35
              by_cases c36 : t412.toList = ([42] : List UInt8)
              · rw [if_pos c36] at H
                have c36b0 : (t412.toList == ([42] : List UInt8)) = true := beq_iff_eq.mpr c36
                have c36b1 : (t412.toList != ([42] : List UInt8)) = false := bne_eq_false_iff_eq.mpr c36
                clear c36
                (first | rw [c36b0] | (simp only [i64_w, i32_w]; rw [c36b0]) | skip)
                have H' := AsZ.mk H
                clear H
                go_wp2
                go_meet
                case rel => exact ⟨_, (x11_15), (x407000_15), (x407001_15), (x407002_15), (x407003_15), ((-1)), (by first | rfl | (simp; done) | (simp [*]; done)), H', ⟨by have := HJ3.out; have := HJ15.out; first | omega | exact Nat.le_refl _⟩, ⟨by (with_reducible repeat (first | refine bDn ?_ _ | refine bDr ?_ | refine bAl ?_ _)); exact BK406.out⟩, ⟨by (with_reducible repeat (first | refine bDn ?_ _ | refine bDr ?_ | refine bAl ?_ _)); exact BK407.out⟩, ⟨by repeat (first | (with_reducible first | exact HB.out | apply aBl | apply pBd | apply dBl | refine sBl ?_ GE406.out | refine sBl ?_ GE407.out) | exact HB.out)⟩⟩
              · rw [if_neg c36] at H
                have c36b0 : (t412.toList == ([42] : List UInt8)) = false := beq_eq_false_iff_ne.mpr c36
                have c36b1 : (t412.toList != ([42] : List UInt8)) = true := bne_iff_ne.mpr c36
                (first | rw [c36b0] | (simp only [i64_w, i32_w]; rw [c36b0]) | skip)
                replace H := Option.bind_eq_some_iff.mp H
                obtain ⟨⟨t422, t423⟩, A370, H⟩ := H
                replace H : (if t423 = 3 then (some (false, 0, 0, 0, 3)) else (if x11_15 = true then (r4Cont.j2 kj15 true x408000_15 x408001_15 x408002_15 t422) else (r4Cont.j2 kj15 (t423 != 0) x408000_15 x408001_15 x408002_15 t422))) = some (r1, r2, r3, r4, r5) := H
                have A37 := AsZ.mk A370
                clear A370
                by_cases c38 : t423 = 3
                · rw [if_pos c38] at H
                  have c38b0 : (t423 == 3) = true := beq_iff_eq.mpr c38
                  have c38b1 : (t423 != 3) = false := bne_eq_false_iff_eq.mpr c38
                  clear c38
                  simp only [Option.some.injEq, Prod.mk.injEq] at H
                  obtain ⟨rfl, rfl, rfl, rfl, rfl⟩ := H
                  go_wp2_with (first | ((with_reducible refine gCa (f := 78) rfl ?_); refine gLl (some 91) rfl rfl Try.func78 (by kernel_rfl) rfl #[.string t412] rfl (by (try simp only [List.map_toArray, List.map_cons, List.map_nil]); first | done | rfl | (simp only [List.length_drop, List.length_take]; rfl)) ?_; (with_reducible refine (r1Pars.calls kj15 t412 t422 t423 _ A37.out).mono ?_); rintro e w' ⟨rfl, ⟨nd, rfl⟩⟩; refine ⟨_, rfl, ?_⟩; (try (rw [drewN_self wc]; generalize hq_ : World.drewN wc _ = wc; have n0_ : AsZ (wc.heap[gb406]? = some (.cells #[.bool x407000_15, .int .i64 x407001_15, .int .i64 x407002_15, .int .i64 x407003_15] 91 (0, 0))) := ⟨by rw [← hq_]; exact (by (with_reducible repeat (first | refine bDn ?_ _ | refine bDr ?_ | refine bAl ?_ _)); exact BK406.out)⟩; have n1_ : AsZ (wc.heap[gb407]? = some (.cells #[.bool x408000_15, .int .i64 x408001_15, .int .i64 x408002_15, .int .i64 (-1)] 91 (0, 0))) := ⟨by rw [← hq_]; exact (by (with_reducible repeat (first | refine bDn ?_ _ | refine bDr ?_ | refine bAl ?_ _)); exact BK407.out)⟩; have n2_ : AsZ (Below w.heap.size w wc) := ⟨by rw [← hq_]; exact (by repeat (first | (with_reducible first | exact HB.out | apply aBl | apply pBd | apply dBl | refine sBl ?_ GE406.out | refine sBl ?_ GE407.out) | exact HB.out))⟩; clear BK406 BK407 HB hq_; have BK406 := n0_; have BK407 := n1_; have HB := n2_; clear n0_ n1_ n2_)); have hnb39 := NB406_407.out; have hnc39 := NB407_406.out; have hcz40_0 : wc.cell? ⟨gb406, 0, none⟩ = some (.bool x407000_15) := (bCe BK406.out 0).trans rfl; have hcz40_1 : wc.cell? ⟨gb406, 1, none⟩ = some (.int .i64 x407001_15) := (bCe BK406.out 1).trans rfl; have hcz40_2 : wc.cell? ⟨gb406, 2, none⟩ = some (.int .i64 x407002_15) := (bCe BK406.out 2).trans rfl; have hcz40_3 : wc.cell? ⟨gb406, 3, none⟩ = some (.int .i64 x407003_15) := (bCe BK406.out 3).trans rfl; have hfz40_0 := bFz BK406.out 0; have hfz40_1 := bFz BK406.out 1; have hfz40_2 := bFz BK406.out 2; have hfz40_3 := bFz BK406.out 3))
                  refine bodyPost_ret (results_ct rfl _ _ gb406 91 #[.bool false, .int .i64 0, .int .i64 0, .int .i64 0] (0, 0) _ rfl (by (with_reducible repeat (first | refine bDn ?_ _ | refine bDr ?_ | refine bAl ?_ _)); refine bPu (cs := #[.bool false, .int .i64 0, .int .i64 0, .int .i64 x407003_15]) ?_ 3 _ rfl; (with_reducible repeat (first | refine bDn ?_ _ | refine bDr ?_ | refine bAl ?_ _)); refine bPu (cs := #[.bool false, .int .i64 0, .int .i64 x407002_15, .int .i64 x407003_15]) ?_ 2 _ rfl; (with_reducible repeat (first | refine bDn ?_ _ | refine bDr ?_ | refine bAl ?_ _)); refine bPu (cs := #[.bool false, .int .i64 x407001_15, .int .i64 x407002_15, .int .i64 x407003_15]) ?_ 1 _ rfl; (with_reducible repeat (first | refine bDn ?_ _ | refine bDr ?_ | refine bAl ?_ _)); refine bPu (cs := #[.bool x407000_15, .int .i64 x407001_15, .int .i64 x407002_15, .int .i64 x407003_15]) ?_ 0 _ rfl; (with_reducible repeat (first | refine bDn ?_ _ | refine bDr ?_ | refine bAl ?_ _)); exact BK406.out) Try.underlying91 rfl (by kernel_rfl)) rfl ?_
                  exact ⟨by first | rfl | exact nEm _ | exact eEm _ | (simp [eWn, eWs] <;> rfl) | (simp [*, eWn, eWs] <;> rfl), by repeat (first | (with_reducible first | exact HB.out | apply aBl | apply pBd | apply dBl | refine sBl ?_ GE406.out | refine sBl ?_ GE407.out) | exact HB.out)⟩
                · rw [if_neg c38] at H
                  have c38b0 : (t423 == 3) = false := beq_eq_false_iff_ne.mpr c38
                  have c38b1 : (t423 != 3) = true := bne_iff_ne.mpr c38
                  by_cases c41 : x11_15 = true
                  · subst c41
                    have H1 : (r4Cont.j2 kj15 true x408000_15 x408001_15 x408002_15 t422) = some (r1, r2, r3, r4, r5) := by rw [if_pos rfl] at H; exact H
                    clear H
                    have H := H1
                    clear H1
                    have H' := AsZ.mk H
                    clear H
                    go_wp2_with (first | ((with_reducible refine gCa (f := 78) rfl ?_); refine gLl (some 91) rfl rfl Try.func78 (by kernel_rfl) rfl #[.string t412] rfl (by (try simp only [List.map_toArray, List.map_cons, List.map_nil]); first | done | rfl | (simp only [List.length_drop, List.length_take]; rfl)) ?_; (with_reducible refine (r1Pars.calls kj15 t412 t422 t423 _ A37.out).mono ?_); rintro e w' ⟨rfl, ⟨nd, rfl⟩⟩; refine ⟨_, rfl, ?_⟩; (try (rw [drewN_self wc]; generalize hq_ : World.drewN wc _ = wc; have n0_ : AsZ (wc.heap[gb406]? = some (.cells #[.bool x407000_15, .int .i64 x407001_15, .int .i64 x407002_15, .int .i64 x407003_15] 91 (0, 0))) := ⟨by rw [← hq_]; exact (by (with_reducible repeat (first | refine bDn ?_ _ | refine bDr ?_ | refine bAl ?_ _)); exact BK406.out)⟩; have n1_ : AsZ (wc.heap[gb407]? = some (.cells #[.bool x408000_15, .int .i64 x408001_15, .int .i64 x408002_15, .int .i64 (-1)] 91 (0, 0))) := ⟨by rw [← hq_]; exact (by (with_reducible repeat (first | refine bDn ?_ _ | refine bDr ?_ | refine bAl ?_ _)); exact BK407.out)⟩; have n2_ : AsZ (Below w.heap.size w wc) := ⟨by rw [← hq_]; exact (by repeat (first | (with_reducible first | exact HB.out | apply aBl | apply pBd | apply dBl | refine sBl ?_ GE406.out | refine sBl ?_ GE407.out) | exact HB.out))⟩; clear BK406 BK407 HB hq_; have BK406 := n0_; have BK407 := n1_; have HB := n2_; clear n0_ n1_ n2_)); have hnb42 := NB407_406.out; have hnc42 := NB406_407.out; have hcz43_0 : wc.cell? ⟨gb407, 0, none⟩ = some (.bool x408000_15) := (bCe BK407.out 0).trans rfl; have hcz43_1 : wc.cell? ⟨gb407, 1, none⟩ = some (.int .i64 x408001_15) := (bCe BK407.out 1).trans rfl; have hcz43_2 : wc.cell? ⟨gb407, 2, none⟩ = some (.int .i64 x408002_15) := (bCe BK407.out 2).trans rfl; have hcz43_3 : wc.cell? ⟨gb407, 3, none⟩ = some (.int .i64 (-1)) := (bCe BK407.out 3).trans rfl; have hfz43_0 := bFz BK407.out 0; have hfz43_1 := bFz BK407.out 1; have hfz43_2 := bFz BK407.out 2; have hfz43_3 := bFz BK407.out 3))
                    go_meet
                    case rel => exact ⟨_, (true), (x407000_15), (x407001_15), (x407002_15), (x407003_15), (t422), (by first | rfl | (simp; done) | (simp [*]; done)), H', ⟨by have := HJ3.out; have := HJ15.out; first | omega | exact Nat.le_refl _⟩, ⟨by (with_reducible repeat (first | refine bDn ?_ _ | refine bDr ?_ | refine bAl ?_ _)); refine bFr ?_ NB406_407.out _; (with_reducible repeat (first | refine bDn ?_ _ | refine bDr ?_ | refine bAl ?_ _)); exact BK406.out⟩, ⟨by (with_reducible repeat (first | refine bDn ?_ _ | refine bDr ?_ | refine bAl ?_ _)); refine bPu (cs := #[.bool x408000_15, .int .i64 x408001_15, .int .i64 x408002_15, .int .i64 (-1)]) ?_ 3 _ rfl; (with_reducible repeat (first | refine bDn ?_ _ | refine bDr ?_ | refine bAl ?_ _)); exact BK407.out⟩, ⟨by repeat (first | (with_reducible first | exact HB.out | apply aBl | apply pBd | apply dBl | refine sBl ?_ GE406.out | refine sBl ?_ GE407.out) | exact HB.out)⟩⟩
                  · replace c41 := Bool.eq_false_iff.mpr c41
                    subst c41
                    have H1 : (r4Cont.j2 kj15 (t423 != 0) x408000_15 x408001_15 x408002_15 t422) = some (r1, r2, r3, r4, r5) := by rw [if_neg (show ¬ (false = true) by decide)] at H; exact H
                    clear H
                    have H := H1
                    clear H1
                    have H' := AsZ.mk H
                    clear H
                    go_wp2_with (first | ((with_reducible refine gCa (f := 78) rfl ?_); refine gLl (some 91) rfl rfl Try.func78 (by kernel_rfl) rfl #[.string t412] rfl (by (try simp only [List.map_toArray, List.map_cons, List.map_nil]); first | done | rfl | (simp only [List.length_drop, List.length_take]; rfl)) ?_; (with_reducible refine (r1Pars.calls kj15 t412 t422 t423 _ A37.out).mono ?_); rintro e w' ⟨rfl, ⟨nd, rfl⟩⟩; refine ⟨_, rfl, ?_⟩; (try (rw [drewN_self wc]; generalize hq_ : World.drewN wc _ = wc; have n0_ : AsZ (wc.heap[gb406]? = some (.cells #[.bool x407000_15, .int .i64 x407001_15, .int .i64 x407002_15, .int .i64 x407003_15] 91 (0, 0))) := ⟨by rw [← hq_]; exact (by (with_reducible repeat (first | refine bDn ?_ _ | refine bDr ?_ | refine bAl ?_ _)); exact BK406.out)⟩; have n1_ : AsZ (wc.heap[gb407]? = some (.cells #[.bool x408000_15, .int .i64 x408001_15, .int .i64 x408002_15, .int .i64 (-1)] 91 (0, 0))) := ⟨by rw [← hq_]; exact (by (with_reducible repeat (first | refine bDn ?_ _ | refine bDr ?_ | refine bAl ?_ _)); exact BK407.out)⟩; have n2_ : AsZ (Below w.heap.size w wc) := ⟨by rw [← hq_]; exact (by repeat (first | (with_reducible first | exact HB.out | apply aBl | apply pBd | apply dBl | refine sBl ?_ GE406.out | refine sBl ?_ GE407.out) | exact HB.out))⟩; clear BK406 BK407 HB hq_; have BK406 := n0_; have BK407 := n1_; have HB := n2_; clear n0_ n1_ n2_)); have hnb44 := NB407_406.out; have hnc44 := NB406_407.out; have hcz45_0 : wc.cell? ⟨gb407, 0, none⟩ = some (.bool x408000_15) := (bCe BK407.out 0).trans rfl; have hcz45_1 : wc.cell? ⟨gb407, 1, none⟩ = some (.int .i64 x408001_15) := (bCe BK407.out 1).trans rfl; have hcz45_2 : wc.cell? ⟨gb407, 2, none⟩ = some (.int .i64 x408002_15) := (bCe BK407.out 2).trans rfl; have hcz45_3 : wc.cell? ⟨gb407, 3, none⟩ = some (.int .i64 (-1)) := (bCe BK407.out 3).trans rfl; have hfz45_0 := bFz BK407.out 0; have hfz45_1 := bFz BK407.out 1; have hfz45_2 := bFz BK407.out 2; have hfz45_3 := bFz BK407.out 3))
                    go_meet
                    case rel => exact ⟨_, ((t423 != 0)), (x407000_15), (x407001_15), (x407002_15), (x407003_15), (t422), (by first | rfl | (simp; done) | (simp [*]; done)), H', ⟨by have := HJ3.out; have := HJ15.out; first | omega | exact Nat.le_refl _⟩, ⟨by (with_reducible repeat (first | refine bDn ?_ _ | refine bDr ?_ | refine bAl ?_ _)); refine bFr ?_ NB406_407.out _; (with_reducible repeat (first | refine bDn ?_ _ | refine bDr ?_ | refine bAl ?_ _)); exact BK406.out⟩, ⟨by (with_reducible repeat (first | refine bDn ?_ _ | refine bDr ?_ | refine bAl ?_ _)); refine bPu (cs := #[.bool x408000_15, .int .i64 x408001_15, .int .i64 x408002_15, .int .i64 (-1)]) ?_ 3 _ rfl; (with_reducible repeat (first | refine bDn ?_ _ | refine bDr ?_ | refine bAl ?_ _)); exact BK407.out⟩, ⟨by repeat (first | (with_reducible first | exact HB.out | apply aBl | apply pBd | apply dBl | refine sBl ?_ GE406.out | refine sBl ?_ GE407.out) | exact HB.out)⟩⟩
            case rest =>
              clear HC35
              try clear c1
              try clear c2
              try clear p2
              try clear c3
              try clear c4
              try clear p6
              try clear c7
              try clear c9
              try clear c10
              try clear c13
              try clear c14
              try clear c17
              try clear c17b0
              try clear c17b1
              try clear c21
              try clear c22
              try clear c22b0
              try clear c22b1
              try clear c23
              try clear c25
              try clear c25b0
              try clear c25b1
              try clear c26
              try clear c28
              try clear c28b0
              try clear c28b1
              try clear c29
              try clear c31
              try clear c33
              try clear c36
              try clear c36b0
              try clear c36b1
              try clear c38
              try clear c38b0
              try clear c38b1
              try clear c39
              try clear c41
              try clear c42
              try clear c44
              try clear hcz15_0
              try clear hcz15_1
              try clear hcz15_2
              try clear hcz15_3
              try clear hcz24_0
              try clear hcz24_1
              try clear hcz24_2
              try clear hcz24_3
              try clear hcz27_0
              try clear hcz27_1
              try clear hcz27_2
              try clear hcz27_3
              try clear hcz30_0
              try clear hcz30_1
              try clear hcz30_2
              try clear hcz30_3
              try clear hcz32_0
              try clear hcz32_1
              try clear hcz32_2
              try clear hcz32_3
              try clear hcz34_0
              try clear hcz34_1
              try clear hcz34_2
              try clear hcz34_3
              try clear hcz40_0
              try clear hcz40_1
              try clear hcz40_2
              try clear hcz40_3
              try clear hcz43_0
              try clear hcz43_1
              try clear hcz43_2
              try clear hcz43_3
              try clear hcz45_0
              try clear hcz45_1
              try clear hcz45_2
              try clear hcz45_3
              try clear hcz8_0
              try clear hcz8_1
              try clear hcz8_2
              try clear hcz8_3
              try clear hfz15_0
              try clear hfz15_1
              try clear hfz15_2
              try clear hfz15_3
              try clear hfz24_0
              try clear hfz24_1
              try clear hfz24_2
              try clear hfz24_3
              try clear hfz27_0
              try clear hfz27_1
              try clear hfz27_2
              try clear hfz27_3
              try clear hfz30_0
              try clear hfz30_1
              try clear hfz30_2
              try clear hfz30_3
              try clear hfz32_0
              try clear hfz32_1
              try clear hfz32_2
              try clear hfz32_3
              try clear hfz34_0
              try clear hfz34_1
              try clear hfz34_2
              try clear hfz34_3
              try clear hfz40_0
              try clear hfz40_1
              try clear hfz40_2
              try clear hfz40_3
              try clear hfz43_0
              try clear hfz43_1
              try clear hfz43_2
              try clear hfz43_3
              try clear hfz45_0
              try clear hfz45_1
              try clear hfz45_2
              try clear hfz45_3
              try clear hfz8_0
              try clear hfz8_1
              try clear hfz8_2
              try clear hfz8_3
              try clear p2
              try clear p6
              obtain ⟨kq, x11_34, x407000_34, x407001_34, x407002_34, x407003_34, x408003_34, rfl, HA, HJ34, BK406, BK407, HB⟩ := hcut
              cases kq with
              | zero => exact absurd HA.out (by simp [r4Cont.j2])
              | succ kj34 =>
                have H := HA.out
                clear HA
                simp only [r4Cont.j2] at H
                by_cases c46 : x11_34 = true
                · subst c46
                  have H1 : (some (false, 0, 0, 0, 9)) = some (r1, r2, r3, r4, r5) := by rw [if_pos rfl] at H; exact H
                  clear H
                  have H := H1
                  clear H1
                  simp only [Option.some.injEq, Prod.mk.injEq] at H
                  obtain ⟨rfl, rfl, rfl, rfl, rfl⟩ := H
                  have hnb47 := NB406_407.out
                  have hnc47 := NB407_406.out
                  have hcz48_0 : wc.cell? ⟨gb406, 0, none⟩ = some (.bool x407000_34) := (bCe BK406.out 0).trans rfl
                  have hcz48_1 : wc.cell? ⟨gb406, 1, none⟩ = some (.int .i64 x407001_34) := (bCe BK406.out 1).trans rfl
                  have hcz48_2 : wc.cell? ⟨gb406, 2, none⟩ = some (.int .i64 x407002_34) := (bCe BK406.out 2).trans rfl
                  have hcz48_3 : wc.cell? ⟨gb406, 3, none⟩ = some (.int .i64 x407003_34) := (bCe BK406.out 3).trans rfl
                  have hfz48_0 := bFz BK406.out 0
                  have hfz48_1 := bFz BK406.out 1
                  have hfz48_2 := bFz BK406.out 2
                  have hfz48_3 := bFz BK406.out 3
                  go_wp2
                  refine bodyPost_ret (results_ct rfl _ _ gb406 91 #[.bool false, .int .i64 0, .int .i64 0, .int .i64 0] (0, 0) _ rfl (by (with_reducible repeat (first | refine bDn ?_ _ | refine bDr ?_ | refine bAl ?_ _)); refine bPu (cs := #[.bool false, .int .i64 0, .int .i64 0, .int .i64 x407003_34]) ?_ 3 _ rfl; (with_reducible repeat (first | refine bDn ?_ _ | refine bDr ?_ | refine bAl ?_ _)); refine bPu (cs := #[.bool false, .int .i64 0, .int .i64 x407002_34, .int .i64 x407003_34]) ?_ 2 _ rfl; (with_reducible repeat (first | refine bDn ?_ _ | refine bDr ?_ | refine bAl ?_ _)); refine bPu (cs := #[.bool false, .int .i64 x407001_34, .int .i64 x407002_34, .int .i64 x407003_34]) ?_ 1 _ rfl; (with_reducible repeat (first | refine bDn ?_ _ | refine bDr ?_ | refine bAl ?_ _)); refine bPu (cs := #[.bool x407000_34, .int .i64 x407001_34, .int .i64 x407002_34, .int .i64 x407003_34]) ?_ 0 _ rfl; (with_reducible repeat (first | refine bDn ?_ _ | refine bDr ?_ | refine bAl ?_ _)); exact BK406.out) Try.underlying91 rfl (by kernel_rfl)) rfl ?_
                  exact ⟨by first | rfl | exact nEm _ | exact eEm _ | (simp [eWn, eWs] <;> rfl) | (simp [*, eWn, eWs] <;> rfl), by repeat (first | (with_reducible first | exact HB.out | apply aBl | apply pBd | apply dBl | refine sBl ?_ GE406.out | refine sBl ?_ GE407.out) | exact HB.out)⟩
                · replace c46 := Bool.eq_false_iff.mpr c46
                  subst c46
                  have H1 : ((r4RC.f kj34 x408000_15 x408001_15 x408002_15 x408003_34).bind fun t424 => (if t424 = true then (some (x408000_15, x408001_15, x408002_15, x408003_34, 0)) else (some (false, 0, 0, 0, 3)))) = some (r1, r2, r3, r4, r5) := by rw [if_neg (show ¬ (false = true) by decide)] at H; exact H
                  clear H
                  have H := H1
                  clear H1
                  replace H := Option.bind_eq_some_iff.mp H
                  obtain ⟨t424, A490, H⟩ := H
                  replace H : (if t424 = true then (some (x408000_15, x408001_15, x408002_15, x408003_34, 0)) else (some (false, 0, 0, 0, 3))) = some (r1, r2, r3, r4, r5) := H
                  have A49 := AsZ.mk A490
                  clear A490
                  by_cases c50 : t424 = true
                  · subst c50
                    have H1 : (some (x408000_15, x408001_15, x408002_15, x408003_34, 0)) = some (r1, r2, r3, r4, r5) := by rw [if_pos rfl] at H; exact H
                    clear H
                    have H := H1
                    clear H1
                    simp only [Option.some.injEq, Prod.mk.injEq] at H
                    obtain ⟨rfl, rfl, rfl, rfl, rfl⟩ := H
                    have hnb51 := NB407_406.out
                    have hnc51 := NB406_407.out
                    have hcz52_0 : wc.cell? ⟨gb407, 0, none⟩ = some (.bool x408000_15) := (bCe BK407.out 0).trans rfl
                    have hcz52_1 : wc.cell? ⟨gb407, 1, none⟩ = some (.int .i64 x408001_15) := (bCe BK407.out 1).trans rfl
                    have hcz52_2 : wc.cell? ⟨gb407, 2, none⟩ = some (.int .i64 x408002_15) := (bCe BK407.out 2).trans rfl
                    have hcz52_3 : wc.cell? ⟨gb407, 3, none⟩ = some (.int .i64 x408003_34) := (bCe BK407.out 3).trans rfl
                    have hfz52_0 := bFz BK407.out 0
                    have hfz52_1 := bFz BK407.out 1
                    have hfz52_2 := bFz BK407.out 2
                    have hfz52_3 := bFz BK407.out 3
                    go_wp2_with (first | ((with_reducible refine gCa (f := 74) rfl ?_); refine gLl (some 107) rfl rfl Try.func74 (by kernel_rfl) rfl #[.agg #[.bool x408000_15, .int .i64 x408001_15, .int .i64 x408002_15, .int .i64 x408003_34]] rfl (by (try simp only [List.map_toArray, List.map_cons, List.map_nil]); first | done | rfl | (simp only [List.length_drop, List.length_take]; rfl)) ?_; (with_reducible refine (r4RC.calls kj34 x408000_15 x408001_15 x408002_15 x408003_34 true _ A49.out).mono ?_); rintro e w53 ⟨rfl, hb⟩; refine ⟨_, rfl, ?_⟩; have n0_ := AsZ.mk (bBl (g := gb406) (o := .cells #[.bool x407000_34, .int .i64 x407001_34, .int .i64 x407002_34, .int .i64 x407003_34] 91 (0, 0)) (by (with_reducible repeat (first | refine bDn ?_ _ | refine bDr ?_ | refine bAl ?_ _)); exact BK406.out) hb); have n1_ := AsZ.mk (bBl (g := gb407) (o := .cells #[.bool x408000_15, .int .i64 x408001_15, .int .i64 x408002_15, .int .i64 x408003_34] 91 (0, 0)) (by (with_reducible repeat (first | refine bDn ?_ _ | refine bDr ?_ | refine bAl ?_ _)); exact BK407.out) hb); have n2_ := AsZ.mk (tBl (by repeat (first | (with_reducible first | exact HB.out | apply aBl | apply pBd | apply dBl | refine sBl ?_ GE406.out | refine sBl ?_ GE407.out) | exact HB.out)) hb); clear BK406; clear BK407; clear HB; have BK406 := n0_; have BK407 := n1_; have HB := n2_; clear n0_ n1_ n2_; (try clear hb); (try clear hb2); (try clear hk); (try clear hi); have hcz54_0 : w53.cell? ⟨gb407, 0, none⟩ = some (.bool x408000_15) := (bCe BK407.out 0).trans rfl; have hcz54_1 : w53.cell? ⟨gb407, 1, none⟩ = some (.int .i64 x408001_15) := (bCe BK407.out 1).trans rfl; have hcz54_2 : w53.cell? ⟨gb407, 2, none⟩ = some (.int .i64 x408002_15) := (bCe BK407.out 2).trans rfl; have hcz54_3 : w53.cell? ⟨gb407, 3, none⟩ = some (.int .i64 x408003_34) := (bCe BK407.out 3).trans rfl; have hfz54_0 := bFz BK407.out 0; have hfz54_1 := bFz BK407.out 1; have hfz54_2 := bFz BK407.out 2; have hfz54_3 := bFz BK407.out 3; have hcz55_0 : w53.cell? ⟨gb406, 0, none⟩ = some (.bool x407000_34) := (bCe BK406.out 0).trans rfl; have hcz55_1 : w53.cell? ⟨gb406, 1, none⟩ = some (.int .i64 x407001_34) := (bCe BK406.out 1).trans rfl; have hcz55_2 : w53.cell? ⟨gb406, 2, none⟩ = some (.int .i64 x407002_34) := (bCe BK406.out 2).trans rfl; have hcz55_3 : w53.cell? ⟨gb406, 3, none⟩ = some (.int .i64 x407003_34) := (bCe BK406.out 3).trans rfl; have hfz55_0 := bFz BK406.out 0; have hfz55_1 := bFz BK406.out 1; have hfz55_2 := bFz BK406.out 2; have hfz55_3 := bFz BK406.out 3))
                    refine bodyPost_ret (results_ct rfl _ _ gb406 91 #[.bool x408000_15, .int .i64 x408001_15, .int .i64 x408002_15, .int .i64 x408003_34] (0, 0) _ rfl (by (with_reducible repeat (first | refine bDn ?_ _ | refine bDr ?_ | refine bAl ?_ _)); refine bPu (cs := #[.bool x408000_15, .int .i64 x408001_15, .int .i64 x408002_15, .int .i64 x407003_34]) ?_ 3 _ rfl; (with_reducible repeat (first | refine bDn ?_ _ | refine bDr ?_ | refine bAl ?_ _)); refine bPu (cs := #[.bool x408000_15, .int .i64 x408001_15, .int .i64 x407002_34, .int .i64 x407003_34]) ?_ 2 _ rfl; (with_reducible repeat (first | refine bDn ?_ _ | refine bDr ?_ | refine bAl ?_ _)); refine bPu (cs := #[.bool x408000_15, .int .i64 x407001_34, .int .i64 x407002_34, .int .i64 x407003_34]) ?_ 1 _ rfl; (with_reducible repeat (first | refine bDn ?_ _ | refine bDr ?_ | refine bAl ?_ _)); refine bPu (cs := #[.bool x407000_34, .int .i64 x407001_34, .int .i64 x407002_34, .int .i64 x407003_34]) ?_ 0 _ rfl; (with_reducible repeat (first | refine bDn ?_ _ | refine bDr ?_ | refine bAl ?_ _)); exact BK406.out) Try.underlying91 rfl (by kernel_rfl)) rfl ?_
                    exact ⟨by first | rfl | exact nEm _ | exact eEm _ | (simp [eWn, eWs] <;> rfl) | (simp [*, eWn, eWs] <;> rfl), by repeat (first | (with_reducible first | exact HB.out | apply aBl | apply pBd | apply dBl | refine sBl ?_ GE406.out | refine sBl ?_ GE407.out) | exact HB.out)⟩
                  · replace c50 := Bool.eq_false_iff.mpr c50
                    subst c50
                    have H1 : (some (false, 0, 0, 0, 3)) = some (r1, r2, r3, r4, r5) := by rw [if_neg (show ¬ (false = true) by decide)] at H; exact H
                    clear H
                    have H := H1
                    clear H1
                    simp only [Option.some.injEq, Prod.mk.injEq] at H
                    obtain ⟨rfl, rfl, rfl, rfl, rfl⟩ := H
                    have hnb56 := NB407_406.out
                    have hnc56 := NB406_407.out
                    have hcz57_0 : wc.cell? ⟨gb407, 0, none⟩ = some (.bool x408000_15) := (bCe BK407.out 0).trans rfl
                    have hcz57_1 : wc.cell? ⟨gb407, 1, none⟩ = some (.int .i64 x408001_15) := (bCe BK407.out 1).trans rfl
                    have hcz57_2 : wc.cell? ⟨gb407, 2, none⟩ = some (.int .i64 x408002_15) := (bCe BK407.out 2).trans rfl
                    have hcz57_3 : wc.cell? ⟨gb407, 3, none⟩ = some (.int .i64 x408003_34) := (bCe BK407.out 3).trans rfl
                    have hfz57_0 := bFz BK407.out 0
                    have hfz57_1 := bFz BK407.out 1
                    have hfz57_2 := bFz BK407.out 2
                    have hfz57_3 := bFz BK407.out 3
                    go_wp2_with (first | ((with_reducible refine gCa (f := 74) rfl ?_); refine gLl (some 107) rfl rfl Try.func74 (by kernel_rfl) rfl #[.agg #[.bool x408000_15, .int .i64 x408001_15, .int .i64 x408002_15, .int .i64 x408003_34]] rfl (by (try simp only [List.map_toArray, List.map_cons, List.map_nil]); first | done | rfl | (simp only [List.length_drop, List.length_take]; rfl)) ?_; (with_reducible refine (r4RC.calls kj34 x408000_15 x408001_15 x408002_15 x408003_34 false _ A49.out).mono ?_); rintro e w58 ⟨rfl, hb⟩; refine ⟨_, rfl, ?_⟩; have n0_ := AsZ.mk (bBl (g := gb406) (o := .cells #[.bool x407000_34, .int .i64 x407001_34, .int .i64 x407002_34, .int .i64 x407003_34] 91 (0, 0)) (by (with_reducible repeat (first | refine bDn ?_ _ | refine bDr ?_ | refine bAl ?_ _)); exact BK406.out) hb); have n1_ := AsZ.mk (bBl (g := gb407) (o := .cells #[.bool x408000_15, .int .i64 x408001_15, .int .i64 x408002_15, .int .i64 x408003_34] 91 (0, 0)) (by (with_reducible repeat (first | refine bDn ?_ _ | refine bDr ?_ | refine bAl ?_ _)); exact BK407.out) hb); have n2_ := AsZ.mk (tBl (by repeat (first | (with_reducible first | exact HB.out | apply aBl | apply pBd | apply dBl | refine sBl ?_ GE406.out | refine sBl ?_ GE407.out) | exact HB.out)) hb); clear BK406; clear BK407; clear HB; have BK406 := n0_; have BK407 := n1_; have HB := n2_; clear n0_ n1_ n2_; (try clear hb); (try clear hb2); (try clear hk); (try clear hi); have hcz59_0 : w58.cell? ⟨gb406, 0, none⟩ = some (.bool x407000_34) := (bCe BK406.out 0).trans rfl; have hcz59_1 : w58.cell? ⟨gb406, 1, none⟩ = some (.int .i64 x407001_34) := (bCe BK406.out 1).trans rfl; have hcz59_2 : w58.cell? ⟨gb406, 2, none⟩ = some (.int .i64 x407002_34) := (bCe BK406.out 2).trans rfl; have hcz59_3 : w58.cell? ⟨gb406, 3, none⟩ = some (.int .i64 x407003_34) := (bCe BK406.out 3).trans rfl; have hfz59_0 := bFz BK406.out 0; have hfz59_1 := bFz BK406.out 1; have hfz59_2 := bFz BK406.out 2; have hfz59_3 := bFz BK406.out 3))
                    refine bodyPost_ret (results_ct rfl _ _ gb406 91 #[.bool false, .int .i64 0, .int .i64 0, .int .i64 0] (0, 0) _ rfl (by (with_reducible repeat (first | refine bDn ?_ _ | refine bDr ?_ | refine bAl ?_ _)); refine bPu (cs := #[.bool false, .int .i64 0, .int .i64 0, .int .i64 x407003_34]) ?_ 3 _ rfl; (with_reducible repeat (first | refine bDn ?_ _ | refine bDr ?_ | refine bAl ?_ _)); refine bPu (cs := #[.bool false, .int .i64 0, .int .i64 x407002_34, .int .i64 x407003_34]) ?_ 2 _ rfl; (with_reducible repeat (first | refine bDn ?_ _ | refine bDr ?_ | refine bAl ?_ _)); refine bPu (cs := #[.bool false, .int .i64 x407001_34, .int .i64 x407002_34, .int .i64 x407003_34]) ?_ 1 _ rfl; (with_reducible repeat (first | refine bDn ?_ _ | refine bDr ?_ | refine bAl ?_ _)); refine bPu (cs := #[.bool x407000_34, .int .i64 x407001_34, .int .i64 x407002_34, .int .i64 x407003_34]) ?_ 0 _ rfl; (with_reducible repeat (first | refine bDn ?_ _ | refine bDr ?_ | refine bAl ?_ _)); exact BK406.out) Try.underlying91 rfl (by kernel_rfl)) rfl ?_
                    exact ⟨by first | rfl | exact nEm _ | exact eEm _ | (simp [eWn, eWs] <;> rfl) | (simp [*, eWn, eWs] <;> rfl), by repeat (first | (with_reducible first | exact HB.out | apply aBl | apply pBd | apply dBl | refine sBl ?_ GE406.out | refine sBl ?_ GE407.out) | exact HB.out)⟩
end Go.Proofs.Ytfcengffgkmacaa.PAll
