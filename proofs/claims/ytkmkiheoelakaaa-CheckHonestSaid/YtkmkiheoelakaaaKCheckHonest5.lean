/- What the law CheckHonest leans on (part 6 of 7): Go functions as plain functions, that the code comes to them, and what these answer. -/
import Derived.Test.YtkmkiheoelakaaaKCheckHonest1
import Derived.Test.YtkmkiheoelakaaaKCheckHonest2
import Derived.Test.YtkmkiheoelakaaaKCheckHonest4
import Derived.Test.YtkmkiheoelakaaaKCheckHonest0
import Derived.OpenShut
import Derived.Laws.BytesArg
import Derived.Laws.Strings
import Derived.Lib.Bytealg
namespace Go.Proofs.Ytkmkiheoelakaaa.PAll
open Go.RowKit Go.Proofs.Ytkmkiheoelakaaa.Xw Go.Proofs.YtkmkiheoelakaaaW.PrintWords Go.Proofs.YtkmkiheoelakaaaW.PrintLast Go.Proofs.YtkmkiheoelakaaaW.PrintMore
attribute [local go_sem] max2_int min2_int max_two min_two max_three min_three max_four min_four   -- for this text's walks alone
set_option linter.unusedVariables false
set_option linter.unusedSimpArgs false
def spencelaw33_awake.f (k : Nat)  : Option (Bool) := (spenceref24_Reply.f k 1 false (⟨#[118, 49, 45, 48]⟩ : ByteArray) 0 2 0).bind fun bt213 => ((check_Part.f k 1 false (⟨#[118, 49, 45, 48]⟩ : ByteArray) 0 2 bt213.1 bt213.2.1 bt213.2.2.1 bt213.2.2.2.1 bt213.2.2.2.2).bind fun t221 => (if t221 = 0 then ((spenceref24_Faulty.f k 2 bt213.1 bt213.2.1 bt213.2.2.1 bt213.2.2.2.1 bt213.2.2.2.2).bind fun bt222 => ((check_Part.f k 1 false (⟨#[118, 49, 45, 48]⟩ : ByteArray) 0 2 bt222.1 bt222.2.1 bt222.2.2.1 bt222.2.2.2.1 bt222.2.2.2.2).bind fun t229 => (if t229 = 3 then ((check_Word.f 4).bind fun t230 => (some (t230.toList == ([108, 111, 115, 116] : List UInt8)))) else (some false)))) else (some false)))
theorem spencelaw33_awake.mono : ∀ k, LeO (spencelaw33_awake.f k ) (spencelaw33_awake.f (k + 1) ) := by
  intro  k
  unfold spencelaw33_awake.f
  repeat' first
      | (with_reducible exact check_Part.mono _ _ _ _ _ _ _ _ _ _ _)
      | (with_reducible exact spenceref24_Faulty.mono _ _ _ _ _ _ _)
      | (with_reducible exact spenceref24_Reply.mono _ _ _ _ _ _ _)
      | (with_reducible exact LeO.refl _)
      | (with_reducible exact LeO.none _)
      | (with_reducible refine LeO.ite ?_ ?_)
      | (with_reducible refine LeO.bind ?_ (fun _ => ?_))
      | exact check_Part.mono _ _ _ _ _ _ _ _ _ _ _
      | exact spenceref24_Faulty.mono _ _ _ _ _ _ _
      | exact spenceref24_Reply.mono _ _ _ _ _ _ _
      | exact LeO.none _
      | refine LeO.ite ?_ ?_
      | refine LeO.bind ?_ (fun _ => ?_)
def spencelaw33_awake.T3 : Bool × List (List Nat × List Nat) := (true, [([], []), ([], []), ([0, 1], [0, 1]), ([2], [2]), ([3, 2], [3]), ([4], [4]), ([4], [4]), ([6, 4, 4], [4, 6]), ([5, 7, 7, 4], [4, 5, 7]), ([8, 4], [4, 8]), ([4, 9], [4, 9]), ([10, 8], [10]), ([11, 11], [11]), ([12, 11], [11, 12]), ([11, 13], [11, 13]), ([14, 12, 0, 1, 2, 3, 4, 5, 6, 7, 8, 9, 10, 11, 12, 13, 14], [14])])
def spencelaw33_awake.B3 : List Nat := [0, 0, 3, 7, 15, 31, 31, 95, 255, 511, 1023, 2047, 4095, 8191, 16383, 32767]
theorem spencelaw33_awake.tab3 : rtab .any (opsOf Try.f4 3) = spencelaw33_awake.T3 := by kernel_rfl
theorem spencelaw33_awake.bits3 : waitsOk spencelaw33_awake.T3.2 spencelaw33_awake.B3 = true := by kernel_rfl
set_option maxHeartbeats 8000000 in
set_option maxRecDepth 100000 in
theorem spencelaw33_awake.calls (k : Nat)  (r : Bool) (w : World) (h : spencelaw33_awake.f k  = some r) :
    Calls Try.prog 4 #[] w fun e w' => e = .returned (.bool r) ∧ Below w.heap.size w w' := by
  have hu23 := Try.underlying23
  have hu25 := Try.underlying25
  have hu31 := Try.underlying31
  have HB := AsZ.mk (Below.refl w.heap.size w)
  have H : ((spenceref24_Reply.f k 1 false (⟨#[118, 49, 45, 48]⟩ : ByteArray) 0 2 0).bind fun bt213 => ((check_Part.f k 1 false (⟨#[118, 49, 45, 48]⟩ : ByteArray) 0 2 bt213.1 bt213.2.1 bt213.2.2.1 bt213.2.2.2.1 bt213.2.2.2.2).bind fun t221 => (if t221 = 0 then ((spenceref24_Faulty.f k 2 bt213.1 bt213.2.1 bt213.2.2.1 bt213.2.2.2.1 bt213.2.2.2.2).bind fun bt222 => ((check_Part.f k 1 false (⟨#[118, 49, 45, 48]⟩ : ByteArray) 0 2 bt222.1 bt222.2.1 bt222.2.2.1 bt222.2.2.2.1 bt222.2.2.2.2).bind fun t229 => (if t229 = 3 then ((check_Word.f 4).bind fun t230 => (some (t230.toList == ([108, 111, 115, 116] : List UInt8)))) else (some false)))) else (some false)))) = some r := h
  clear h
  replace H := Option.bind_eq_some_iff.mp H
  obtain ⟨⟨t213, t214, t215, t216, t217⟩, A10, H⟩ := H
  replace H : ((check_Part.f k 1 false (⟨#[118, 49, 45, 48]⟩ : ByteArray) 0 2 t213 t214 t215 t216 t217).bind fun t221 => (if t221 = 0 then ((spenceref24_Faulty.f k 2 t213 t214 t215 t216 t217).bind fun bt222 => ((check_Part.f k 1 false (⟨#[118, 49, 45, 48]⟩ : ByteArray) 0 2 bt222.1 bt222.2.1 bt222.2.2.1 bt222.2.2.2.1 bt222.2.2.2.2).bind fun t229 => (if t229 = 3 then ((check_Word.f 4).bind fun t230 => (some (t230.toList == ([108, 111, 115, 116] : List UInt8)))) else (some false)))) else (some false))) = some r := H
  have A1 := AsZ.mk A10
  clear A10
  replace H := Option.bind_eq_some_iff.mp H
  obtain ⟨t221, A20, H⟩ := H
  replace H : (if t221 = 0 then ((spenceref24_Faulty.f k 2 t213 t214 t215 t216 t217).bind fun bt222 => ((check_Part.f k 1 false (⟨#[118, 49, 45, 48]⟩ : ByteArray) 0 2 bt222.1 bt222.2.1 bt222.2.2.1 bt222.2.2.2.1 bt222.2.2.2.2).bind fun t229 => (if t229 = 3 then ((check_Word.f 4).bind fun t230 => (some (t230.toList == ([108, 111, 115, 116] : List UInt8)))) else (some false)))) else (some false)) = some r := H
  have A2 := AsZ.mk A20
  clear A20
  by_cases c3 : t221 = 0
  · rw [if_pos c3] at H
    have c3b0 : (t221 == 0) = true := beq_iff_eq.mpr c3
    have c3b1 : (t221 != 0) = false := bne_eq_false_iff_eq.mpr c3
    clear c3
    replace H := Option.bind_eq_some_iff.mp H
    obtain ⟨⟨t222, t223, t224, t225, t226⟩, A40, H⟩ := H
    replace H : ((check_Part.f k 1 false (⟨#[118, 49, 45, 48]⟩ : ByteArray) 0 2 t222 t223 t224 t225 t226).bind fun t229 => (if t229 = 3 then ((check_Word.f 4).bind fun t230 => (some (t230.toList == ([108, 111, 115, 116] : List UInt8)))) else (some false))) = some r := H
    have A4 := AsZ.mk A40
    clear A40
    replace H := Option.bind_eq_some_iff.mp H
    obtain ⟨t229, A50, H⟩ := H
    replace H : (if t229 = 3 then ((check_Word.f 4).bind fun t230 => (some (t230.toList == ([108, 111, 115, 116] : List UInt8)))) else (some false)) = some r := H
    have A5 := AsZ.mk A50
    clear A50
    by_cases c6 : t229 = 3
    · rw [if_pos c6] at H
      have c6b0 : (t229 == 3) = true := beq_iff_eq.mpr c6
      have c6b1 : (t229 != 3) = false := bne_eq_false_iff_eq.mpr c6
      clear c6
      replace H := Option.bind_eq_some_iff.mp H
      obtain ⟨t230, A70, H⟩ := H
      replace H : (some (t230.toList == ([108, 111, 115, 116] : List UInt8))) = some r := H
      have A7 := AsZ.mk A70
      clear A70
      obtain rfl := Option.some.inj H
      go_enter Try.func4, Try.ntmps4
      try go_wp2_with (first | ((with_reducible refine gDs (N := 1) rfl ?_); refine bEv ?hg (N := 1) ?hd (cs := #[.int .i64 0, .bool false, .string (⟨#[]⟩ : ByteArray), .int .i64 0, .int .i64 0]) (t := 25) ?hr ?_; (case hd => rfl); (case hg => rfl); (case hr => first | (go_simp; done) | (go_simp; rfl)); intro gb212 hg w8 hbox hb; have n0_ := AsZ.mk (tBl (by repeat (first | (with_reducible first | exact HB.out | apply aBl | apply pBd | apply dBl) | exact HB.out)) hb); have n1_ := AsZ.mk (hbox); have n2_ := AsZ.mk ((by rw [hg]; exact (zBl (by repeat (first | (with_reducible first | exact HB.out | apply aBl | apply pBd | apply dBl) | exact HB.out))) : w.heap.size ≤ gb212)); have n3_ := AsZ.mk ((by rw [hg]; exact (zBl (by repeat (first | (with_reducible first | exact HB.out | apply aBl | apply pBd | apply dBl) | exact HB.out))) : w.heap.size ≤ gb212)); clear HB; have HB := n0_; have BK212 := n1_; have GW212 := n2_; have GE212 := n3_; clear n0_ n1_ n2_ n3_; clear hb hbox hg; obtain ⟨hcz9_0, hcz9_1, hcz9_2, hcz9_3, hcz9_4⟩ := celN5 BK212.out; obtain ⟨hfz9_0, hfz9_1, hfz9_2, hfz9_3, hfz9_4⟩ := fzN5 BK212.out) | ((with_reducible refine gCa (f := 7) rfl ?_); refine gLl (some 6) rfl rfl Try.func7 (by kernel_rfl) rfl #[.agg #[.int .i64 1, .bool false, .string (⟨#[118, 49, 45, 48]⟩ : ByteArray), .int .i64 0, .int .i64 2], .int .i64 0] rfl (by (try simp only [List.map_toArray, List.map_cons, List.map_nil]); first | done | rfl | (simp only [List.length_drop, List.length_take]; rfl)) ?_; (with_reducible refine (spenceref24_Reply.calls k 1 false (⟨#[118, 49, 45, 48]⟩ : ByteArray) 0 2 0 t213 t214 t215 t216 t217 _ A1.out).mono ?_); rintro e w10 ⟨v218, rfl, ho0, hb⟩; refine ⟨_, rfl, ?_⟩; have n0_ := AsZ.mk (Kd.R_lower ho0 (zBl (by repeat (first | (with_reducible first | exact HB.out | apply aBl | apply pBd | apply dBl | refine sBl ?_ GE212.out) | exact HB.out)))); have n1_ := AsZ.mk (bBl (g := gb212) (o := .cells #[.int .i64 1, .bool false, .string (⟨#[118, 49, 45, 48]⟩ : ByteArray), .int .i64 0, .int .i64 2] 25 (0, 0)) (by (with_reducible repeat first | apply bDn | apply bDr | apply bAl); refine bPu (cs := #[.int .i64 1, .bool false, .string (⟨#[118, 49, 45, 48]⟩ : ByteArray), .int .i64 0, .int .i64 0]) ?_ 4 _ rfl; (with_reducible repeat first | apply bDn | apply bDr | apply bAl); refine bPu (cs := #[.int .i64 1, .bool false, .string (⟨#[118, 49, 45, 48]⟩ : ByteArray), .int .i64 0, .int .i64 0]) ?_ 3 _ rfl; (with_reducible repeat first | apply bDn | apply bDr | apply bAl); refine bPu (cs := #[.int .i64 1, .bool false, .string (⟨#[]⟩ : ByteArray), .int .i64 0, .int .i64 0]) ?_ 2 _ rfl; (with_reducible repeat first | apply bDn | apply bDr | apply bAl); refine bPu (cs := #[.int .i64 1, .bool false, .string (⟨#[]⟩ : ByteArray), .int .i64 0, .int .i64 0]) ?_ 1 _ rfl; (with_reducible repeat first | apply bDn | apply bDr | apply bAl); refine bPu (cs := #[.int .i64 0, .bool false, .string (⟨#[]⟩ : ByteArray), .int .i64 0, .int .i64 0]) ?_ 0 _ rfl; (with_reducible repeat first | apply bDn | apply bDr | apply bAl); exact BK212.out) hb); have n2_ := AsZ.mk (tBl (by repeat (first | (with_reducible first | exact HB.out | apply aBl | apply pBd | apply dBl | refine sBl ?_ GE212.out) | exact HB.out)) hb); clear BK212; clear HB; have HO219 := n0_; have BK212 := n1_; have HB := n2_; clear n0_ n1_ n2_; (try clear hb); (try clear hb2); (try clear hk); (try clear hi); (try clear ho0)) | ((with_reducible refine gDs (N := 2) rfl ?_); refine bEv ?hg (N := 2) ?hd (cs := #[.int .i64 0, .string (⟨#[]⟩ : ByteArray), .int .i64 0, .string (⟨#[]⟩ : ByteArray), .slice none 0 0]) (t := 31) ?hr ?_; (case hd => rfl); (case hg => rfl); (case hr => first | (go_simp; done) | (go_simp; rfl)); intro gb220 hg w11 hbox hb; have n0_ := AsZ.mk (Kd.R_below (by (with_reducible repeat (first | apply Kd.R_alloc | apply Kd.R_drewN | apply Kd.R_drew)); exact HO219.out) hb); have n1_ := AsZ.mk (bBl (g := gb212) (o := .cells #[.int .i64 1, .bool false, .string (⟨#[118, 49, 45, 48]⟩ : ByteArray), .int .i64 0, .int .i64 2] 25 (0, 0)) (by (with_reducible repeat first | apply bDn | apply bDr | apply bAl); exact BK212.out) hb); have n2_ := AsZ.mk (tBl (by repeat (first | (with_reducible first | exact HB.out | apply aBl | apply pBd | apply dBl | refine sBl ?_ GE212.out) | exact HB.out)) hb); have n3_ := AsZ.mk (hbox); have n4_ := AsZ.mk ((by rw [hg]; exact (zBl (by repeat (first | (with_reducible first | exact HB.out | apply aBl | apply pBd | apply dBl | refine sBl ?_ GE212.out) | exact HB.out))) : w.heap.size ≤ gb220)); have n5_ := AsZ.mk ((by rw [hg]; exact (zBl (by repeat (first | (with_reducible first | exact HB.out | apply aBl | apply pBd | apply dBl | refine sBl ?_ GE212.out) | exact HB.out))) : w.heap.size ≤ gb220)); have n6_ := AsZ.mk ((by rw [hg]; exact Nat.ne_of_lt (bLt (g := gb212) (o := .cells #[.int .i64 1, .bool false, .string (⟨#[118, 49, 45, 48]⟩ : ByteArray), .int .i64 0, .int .i64 2] 25 (0, 0)) (by (with_reducible repeat first | apply bDn | apply bDr | apply bAl); exact BK212.out)) : gb212 ≠ gb220)); have n7_ := AsZ.mk ((by rw [hg]; exact Nat.ne_of_gt (bLt (g := gb212) (o := .cells #[.int .i64 1, .bool false, .string (⟨#[118, 49, 45, 48]⟩ : ByteArray), .int .i64 0, .int .i64 2] 25 (0, 0)) (by (with_reducible repeat first | apply bDn | apply bDr | apply bAl); exact BK212.out)) : gb220 ≠ gb212)); clear HO219; clear BK212; clear HB; have HO219 := n0_; have BK212 := n1_; have HB := n2_; have BK220 := n3_; have GW220 := n4_; have GE220 := n5_; have NB212_220 := n6_; have NB220_212 := n7_; clear n0_ n1_ n2_ n3_ n4_ n5_ n6_ n7_; clear hb hbox hg; have hnb12 := NB220_212.out; have hnc12 := NB212_220.out; obtain ⟨hcz13_0, hcz13_1, hcz13_2, hcz13_3, hcz13_4⟩ := celN5 BK220.out; obtain ⟨hfz13_0, hfz13_1, hfz13_2, hfz13_3, hfz13_4⟩ := fzN5 BK220.out; obtain ⟨Ao14, co14, eo14⟩ := Kd.R_slice HO219.out; subst eo14))
      have n0_ : AsZ (Kd.R (Kd.int .u8) 5 (((((w11.setCell ⟨gb220, 0, none⟩ (.int .i64 t213)).setCell ⟨gb220, 1, none⟩ (.string t214)).setCell ⟨gb220, 2, none⟩ (.int .i64 t215)).setCell ⟨gb220, 3, none⟩ (.string t216)).setCell ⟨gb220, 4, none⟩ (.slice Ao14 t217.length co14)) w.heap.size (fun _ => True) (.slice Ao14 t217.length co14) t217) := ⟨by (with_reducible repeat (first | apply Kd.R_alloc | apply Kd.R_drewN | apply Kd.R_drew)); exact Kd.R_mono (Kd.R_far (p := ⟨gb220, 4, none⟩) (Kd.R_far (p := ⟨gb220, 3, none⟩) (Kd.R_far (p := ⟨gb220, 2, none⟩) (Kd.R_far (p := ⟨gb220, 1, none⟩) (Kd.R_far (p := ⟨gb220, 0, none⟩) (Kd.R_types HO219.out BK220.out (by decide)) (fun _ hk => hk.2) (.int .i64 t213)) (fun _ hk => hk.2) (.string t214)) (fun _ hk => hk.2) (.int .i64 t215)) (fun _ hk => hk.2) (.string t216)) (fun _ hk => hk.2) (.slice Ao14 t217.length co14)) (fun _ hk => trivial)⟩
      have n1_ : AsZ ((((((w11.setCell ⟨gb220, 0, none⟩ (.int .i64 t213)).setCell ⟨gb220, 1, none⟩ (.string t214)).setCell ⟨gb220, 2, none⟩ (.int .i64 t215)).setCell ⟨gb220, 3, none⟩ (.string t216)).setCell ⟨gb220, 4, none⟩ (.slice Ao14 t217.length co14)).heap[gb212]? = some (.cells #[.int .i64 1, .bool false, .string (⟨#[118, 49, 45, 48]⟩ : ByteArray), .int .i64 0, .int .i64 2] 25 (0, 0))) := ⟨by (with_reducible repeat first | apply bDn | apply bDr | apply bAl); refine bFr ?_ NB212_220.out _; (with_reducible repeat first | apply bDn | apply bDr | apply bAl); refine bFr ?_ NB212_220.out _; (with_reducible repeat first | apply bDn | apply bDr | apply bAl); refine bFr ?_ NB212_220.out _; (with_reducible repeat first | apply bDn | apply bDr | apply bAl); refine bFr ?_ NB212_220.out _; (with_reducible repeat first | apply bDn | apply bDr | apply bAl); refine bFr ?_ NB212_220.out _; (with_reducible repeat first | apply bDn | apply bDr | apply bAl); exact BK212.out⟩
      have n2_ : AsZ ((((((w11.setCell ⟨gb220, 0, none⟩ (.int .i64 t213)).setCell ⟨gb220, 1, none⟩ (.string t214)).setCell ⟨gb220, 2, none⟩ (.int .i64 t215)).setCell ⟨gb220, 3, none⟩ (.string t216)).setCell ⟨gb220, 4, none⟩ (.slice Ao14 t217.length co14)).heap[gb220]? = some (.cells #[.int .i64 t213, .string t214, .int .i64 t215, .string t216, .slice Ao14 t217.length co14] 31 (0, 0))) := ⟨by (with_reducible repeat first | apply bDn | apply bDr | apply bAl); refine bPu (cs := #[.int .i64 t213, .string t214, .int .i64 t215, .string t216, .slice none 0 0]) ?_ 4 _ rfl; (with_reducible repeat first | apply bDn | apply bDr | apply bAl); refine bPu (cs := #[.int .i64 t213, .string t214, .int .i64 t215, .string (⟨#[]⟩ : ByteArray), .slice none 0 0]) ?_ 3 _ rfl; (with_reducible repeat first | apply bDn | apply bDr | apply bAl); refine bPu (cs := #[.int .i64 t213, .string t214, .int .i64 0, .string (⟨#[]⟩ : ByteArray), .slice none 0 0]) ?_ 2 _ rfl; (with_reducible repeat first | apply bDn | apply bDr | apply bAl); refine bPu (cs := #[.int .i64 t213, .string (⟨#[]⟩ : ByteArray), .int .i64 0, .string (⟨#[]⟩ : ByteArray), .slice none 0 0]) ?_ 1 _ rfl; (with_reducible repeat first | apply bDn | apply bDr | apply bAl); refine bPu (cs := #[.int .i64 0, .string (⟨#[]⟩ : ByteArray), .int .i64 0, .string (⟨#[]⟩ : ByteArray), .slice none 0 0]) ?_ 0 _ rfl; (with_reducible repeat first | apply bDn | apply bDr | apply bAl); exact BK220.out⟩
      have n3_ : AsZ (Below w.heap.size w (((((w11.setCell ⟨gb220, 0, none⟩ (.int .i64 t213)).setCell ⟨gb220, 1, none⟩ (.string t214)).setCell ⟨gb220, 2, none⟩ (.int .i64 t215)).setCell ⟨gb220, 3, none⟩ (.string t216)).setCell ⟨gb220, 4, none⟩ (.slice Ao14 t217.length co14))) := ⟨by repeat (first | (with_reducible first | exact HB.out | apply aBl | apply pBd | apply dBl | refine sBl ?_ GE212.out | refine sBl ?_ GE220.out) | exact HB.out)⟩
      (try clear HO219)
      (try clear BK212)
      (try clear BK220)
      (try clear HB)
      generalize (((((w11.setCell ⟨gb220, 0, none⟩ (.int .i64 t213)).setCell ⟨gb220, 1, none⟩ (.string t214)).setCell ⟨gb220, 2, none⟩ (.int .i64 t215)).setCell ⟨gb220, 3, none⟩ (.string t216)).setCell ⟨gb220, 4, none⟩ (.slice Ao14 t217.length co14)) = w15 at n0_ n1_ n2_ n3_ ⊢
      have HO219 := n0_
      have BK212 := n1_
      have BK220 := n2_
      have HB := n3_
      clear n0_ n1_ n2_ n3_
      have n0_ := AsZ.mk (Kd.R_drew HO219.out)
      have n1_ := AsZ.mk (bDr BK212.out)
      have n2_ := AsZ.mk (bDr BK220.out)
      have n3_ := AsZ.mk (dBl HB.out)
      clear HO219
      clear BK212
      clear BK220
      clear HB
      have HO219 := n0_
      have BK212 := n1_
      have BK220 := n2_
      have HB := n3_
      clear n0_ n1_ n2_ n3_
      refine start_ (n := 16) (S := fun w' => w'.cell? ⟨gb212, 0, none⟩ = some (.int .i64 1) ∧ w'.cell? ⟨gb212, 1, none⟩ = some (.bool false) ∧ w'.cell? ⟨gb212, 2, none⟩ = some (.string (⟨#[118, 49, 45, 48]⟩ : ByteArray)) ∧ w'.cell? ⟨gb212, 3, none⟩ = some (.int .i64 0) ∧ w'.cell? ⟨gb212, 4, none⟩ = some (.int .i64 2) ∧ w'.cell? ⟨gb220, 0, none⟩ = some (.int .i64 t213) ∧ w'.cell? ⟨gb220, 1, none⟩ = some (.string t214) ∧ w'.cell? ⟨gb220, 2, none⟩ = some (.int .i64 t215) ∧ w'.cell? ⟨gb220, 3, none⟩ = some (.string t216) ∧ w'.cell? ⟨gb220, 4, none⟩ = some (.slice Ao14 t217.length co14)) (ds := []) #[false, false, false, false, false, false, false, false, false, false, false, false, false, false, false, false] (by kernel_rfl) rfl rfl ⟨(bCe BK212.out 0).trans rfl, (bCe BK212.out 1).trans rfl, (bCe BK212.out 2).trans rfl, (bCe BK212.out 3).trans rfl, (bCe BK212.out 4).trans rfl, (bCe BK220.out 0).trans rfl, (bCe BK220.out 1).trans rfl, (bCe BK220.out 2).trans rfl, (bCe BK220.out 3).trans rfl, (bCe BK220.out 4).trans rfl⟩ (fun hHeld => ?_); refine with_tabW spencelaw33_awake.tab3 spencelaw33_awake.bits3 (fun HT_ HW_ => ?_)
      generalize w15.drew = w16 at HO219 BK212 BK220 HB hHeld ⊢
      refine take_ (i := 0) (N := some 7) (v := ?_) (a' := ?_) #[true, false, false, false, false, false, false, false, false, false, false, false, false, false, false, false] rfl rfl (take_ofW HT_.out HW_.out (by kernel_rfl)) (fun _ _ _ h => h) (Or.inl ⟨by rfl, ?_⟩) hHeld ?_ ?_
      rotate_left
      · rintro w' ⟨s0, s1, s2, s3, s4, s5, s6, s7, s8, s9⟩
        go_simp
        with_reducible rfl
      rotate_left
      · simp only [Act.put, List.setIfInBounds_toArray, List.set_cons_zero, List.set_cons_succ, i64_w, i32_w]
        rfl
      refine take_ (i := 1) (N := some 8) (v := ?_) (a' := ?_) #[true, true, false, false, false, false, false, false, false, false, false, false, false, false, false, false] rfl rfl (take_ofW HT_.out HW_.out (by kernel_rfl)) (fun _ _ _ h => h) (Or.inl ⟨by rfl, ?_⟩) hHeld ?_ ?_
      rotate_left
      · rintro w' ⟨s0, s1, s2, s3, s4, s5, s6, s7, s8, s9⟩
        go_simp
        with_reducible rfl
      rotate_left
      · simp only [Act.put, List.setIfInBounds_toArray, List.set_cons_zero, List.set_cons_succ, i64_w, i32_w]
        rfl
      refine one_ (i := 2) (N := some 9) #[true, true, true, false, false, false, false, false, false, false, false, false, false, false, false, false] rfl rfl (one_of HT_.out (by kernel_rfl)) (by decide) (fun K hK => ?_)
      refine goes_ Try.func10 (by kernel_rfl) rfl #[.agg #[.int .i64 1, .bool false, .string (⟨#[118, 49, 45, 48]⟩ : ByteArray), .int .i64 0, .int .i64 2], .agg #[.int .i64 t213, .string t214, .int .i64 t215, .string t216, .slice Ao14 t217.length co14]] (by rfl) rfl rfl (by (try simp only [List.map_toArray, List.map_cons, List.map_nil]); first | done | rfl | (simp only [List.length_drop, List.length_take]; rfl)) ?_
      with_reducible refine (check_Part.calls k 1 false (⟨#[118, 49, 45, 48]⟩ : ByteArray) 0 2 t213 t214 t215 t216 _ _ t217 t221 _ ?side1 ?side2 A2.out).mono ?_
      (case side1 => repeat (first | exact (Kd.R_reads' HO219.out).2.2 | (with_reducible refine Kd.C_alloc ?_ _) | (with_reducible refine Kd.C_drewN ?_ _) | (with_reducible refine Kd.C_drew ?_)))
      (case side2 => exact (Kd.R_reads' HO219.out).2.1)
      rintro e w17 ⟨rfl, hb⟩
      refine ⟨_, rfl, ?_⟩
      have n0_ := AsZ.mk (Kd.R_below (by (with_reducible repeat (first | apply Kd.R_alloc | apply Kd.R_drewN | apply Kd.R_drew)); exact HO219.out) hb)
      have n1_ := AsZ.mk (bBl (g := gb212) (o := .cells #[.int .i64 1, .bool false, .string (⟨#[118, 49, 45, 48]⟩ : ByteArray), .int .i64 0, .int .i64 2] 25 (0, 0)) (by (with_reducible repeat first | apply bDn | apply bDr | apply bAl); exact BK212.out) hb)
      have n2_ := AsZ.mk (bBl (g := gb220) (o := .cells #[.int .i64 t213, .string t214, .int .i64 t215, .string t216, .slice Ao14 t217.length co14] 31 (0, 0)) (by (with_reducible repeat first | apply bDn | apply bDr | apply bAl); exact BK220.out) hb)
      have n3_ := AsZ.mk (tBl (by repeat (first | (with_reducible first | exact HB.out | apply aBl | apply pBd | apply dBl | refine sBl ?_ GE212.out | refine sBl ?_ GE220.out) | exact HB.out)) hb)
      clear HO219
      clear BK212
      clear BK220
      clear HB
      have HO219 := n0_
      have BK212 := n1_
      have BK220 := n2_
      have HB := n3_
      clear n0_ n1_ n2_ n3_
      (try clear hb)
      (try clear hb2)
      (try clear hk)
      (try clear hi)
      refine hK.out _ _ ⟨(bCe BK212.out 0).trans rfl, (bCe BK212.out 1).trans rfl, (bCe BK212.out 2).trans rfl, (bCe BK212.out 3).trans rfl, (bCe BK212.out 4).trans rfl, (bCe BK220.out 0).trans rfl, (bCe BK220.out 1).trans rfl, (bCe BK220.out 2).trans rfl, (bCe BK220.out 3).trans rfl, (bCe BK220.out 4).trans rfl⟩ (fun hHeld => ?_)
      clear hK K
      refine norm_ (a' := ?_) ?_ ?_
      rotate_left
      · show Act.put _ (some 9) _ = _
        simp only [Act.put, List.setIfInBounds_toArray, List.set_cons_zero, List.set_cons_succ, i64_w, i32_w]
        rfl
      refine pure_ (i := 3) (N := some 10) (v := ?_) (a' := ?_) #[true, true, true, true, false, false, false, false, false, false, false, false, false, false, false, false] rfl rfl (any_of HT_.out (by kernel_rfl)) (fun _ _ _ h => h) (Or.inl ⟨by rfl, ?_⟩) ?_ ?_
      rotate_left
      · intro w'
        go_simp
        with_reducible rfl
      rotate_left
      · simp only [Act.put, List.setIfInBounds_toArray, List.set_cons_zero, List.set_cons_succ, i64_w, i32_w]
        rfl
      refine pure_ (i := 4) (N := some 11) (v := ?_) (a' := ?_) #[true, true, true, true, true, false, false, false, false, false, false, false, false, false, false, false] rfl rfl (any_of HT_.out (by kernel_rfl)) (fun _ _ _ h => h) (Or.inl ⟨by rfl, ?_⟩) ?_ ?_
      rotate_left
      · intro w'
        go_simp
        with_reducible rfl
      rotate_left
      · simp only [Act.put, List.setIfInBounds_toArray, List.set_cons_zero, List.set_cons_succ, i64_w, i32_w]
        rfl
      refine take_ (i := 5) (N := some 12) (v := ?_) (a' := ?_) #[true, true, true, true, true, true, false, false, false, false, false, false, false, false, false, false] rfl rfl (take_ofW HT_.out HW_.out (by kernel_rfl)) (fun _ _ _ h => h) (Or.inl ⟨by rfl, ?_⟩) hHeld ?_ ?_
      rotate_left
      · rintro w' ⟨s0, s1, s2, s3, s4, s5, s6, s7, s8, s9⟩
        go_simp
        with_reducible rfl
      rotate_left
      · simp only [Act.put, List.setIfInBounds_toArray, List.set_cons_zero, List.set_cons_succ, i64_w, i32_w]
        rfl
      refine take_ (i := 6) (N := some 13) (v := ?_) (a' := ?_) #[true, true, true, true, true, true, true, false, false, false, false, false, false, false, false, false] rfl rfl (take_ofW HT_.out HW_.out (by kernel_rfl)) (fun _ _ _ h => h) (Or.inl ⟨by rfl, ?_⟩) hHeld ?_ ?_
      rotate_left
      · rintro w' ⟨s0, s1, s2, s3, s4, s5, s6, s7, s8, s9⟩
        go_simp
        with_reducible rfl
      rotate_left
      · simp only [Act.put, List.setIfInBounds_toArray, List.set_cons_zero, List.set_cons_succ, i64_w, i32_w]
        rfl
      refine one_ (i := 7) (N := some 14) #[true, true, true, true, true, true, true, true, false, false, false, false, false, false, false, false] rfl rfl (one_of HT_.out (by kernel_rfl)) (by decide) (fun K hK => ?_)
      refine goes_ Try.func9 (by kernel_rfl) rfl #[.int .i64 2, .agg #[.int .i64 t213, .string t214, .int .i64 t215, .string t216, .slice Ao14 t217.length co14]] (by rfl) rfl rfl (by (try simp only [List.map_toArray, List.map_cons, List.map_nil]); first | done | rfl | (simp only [List.length_drop, List.length_take]; rfl)) ?_
      with_reducible refine (spenceref24_Faulty.calls k 2 t213 t214 t215 t216 (fun k_ => some k_ = (.slice Ao14 t217.length co14 : Value).ownBlock) _ _ t217 t222 t223 t224 t225 t226 _ ?side1 A4.out).mono ?_
      (case side1 => exact Kd.R_V (Kd.R_tight rfl (Kd.R_types (Kd.R_types (HO219.out) BK212.out (by decide)) BK220.out (by decide))))
      rintro e w18 ⟨v227, rfl, ho0, hb⟩
      refine ⟨_, rfl, ?_⟩
      have n0_ := AsZ.mk (Kd.R_below (by (with_reducible repeat (first | apply Kd.R_alloc | apply Kd.R_drewN | apply Kd.R_drew)); exact HO219.out) hb)
      have n1_ := AsZ.mk (Kd.V_lower (Kd.V_mono (ok' := fun k_ => k_ ≠ gb212 ∧ k_ ≠ gb220) ho0 (fun k_ hk_ => ⟨Or.elim hk_ (fun hs_ => ((Kd.R_types (Kd.R_types (HO219.out) BK212.out (by decide)) BK220.out (by decide)).1 k_ hs_.symm).1.2) (fun hn_ => (Kd.freshB (g := gb212) (o := .cells #[.int .i64 1, .bool false, .string (⟨#[118, 49, 45, 48]⟩ : ByteArray), .int .i64 0, .int .i64 2] 25 (0, 0)) (by (with_reducible repeat first | apply bDn | apply bDr | apply bAl); exact BK212.out) k_ hn_)), Or.elim hk_ (fun hs_ => ((Kd.R_types (Kd.R_types (HO219.out) BK212.out (by decide)) BK220.out (by decide)).1 k_ hs_.symm).2) (fun hn_ => (Kd.freshB (g := gb220) (o := .cells #[.int .i64 t213, .string t214, .int .i64 t215, .string t216, .slice Ao14 t217.length co14] 31 (0, 0)) (by (with_reducible repeat first | apply bDn | apply bDr | apply bAl); exact BK220.out) k_ hn_))⟩)) (zBl (by repeat (first | (with_reducible first | exact HB.out | apply aBl | apply pBd | apply dBl | refine sBl ?_ GE212.out | refine sBl ?_ GE220.out) | exact HB.out))))
      have n2_ := AsZ.mk (bBl (g := gb212) (o := .cells #[.int .i64 1, .bool false, .string (⟨#[118, 49, 45, 48]⟩ : ByteArray), .int .i64 0, .int .i64 2] 25 (0, 0)) (by (with_reducible repeat first | apply bDn | apply bDr | apply bAl); exact BK212.out) hb)
      have n3_ := AsZ.mk (bBl (g := gb220) (o := .cells #[.int .i64 t213, .string t214, .int .i64 t215, .string t216, .slice Ao14 t217.length co14] 31 (0, 0)) (by (with_reducible repeat first | apply bDn | apply bDr | apply bAl); exact BK220.out) hb)
      have n4_ := AsZ.mk (tBl (by repeat (first | (with_reducible first | exact HB.out | apply aBl | apply pBd | apply dBl | refine sBl ?_ GE212.out | refine sBl ?_ GE220.out) | exact HB.out)) hb)
      clear HO219
      clear BK212
      clear BK220
      clear HB
      have HO219 := n0_
      have HO228 := n1_
      have BK212 := n2_
      have BK220 := n3_
      have HB := n4_
      clear n0_ n1_ n2_ n3_ n4_
      (try clear hb)
      (try clear hb2)
      (try clear hk)
      (try clear hi)
      (try clear ho0)
      obtain ⟨Ao19, co19, eo19⟩ := Kd.V_slice HO228.out
      (first | subst eo19 | (injection eo19 with f1_ f2_ f3_; have f4_ := f1_.symm; have f5_ := f3_.symm; clear f1_ f2_ f3_; subst f4_; subst f5_))
      refine hK.out _ _ ⟨(bCe BK212.out 0).trans rfl, (bCe BK212.out 1).trans rfl, (bCe BK212.out 2).trans rfl, (bCe BK212.out 3).trans rfl, (bCe BK212.out 4).trans rfl, (bCe BK220.out 0).trans rfl, (bCe BK220.out 1).trans rfl, (bCe BK220.out 2).trans rfl, (bCe BK220.out 3).trans rfl, (bCe BK220.out 4).trans rfl⟩ (fun hHeld => ?_)
      clear hK K
      refine norm_ (a' := ?_) ?_ ?_
      rotate_left
      · show Act.put _ (some 14) _ = _
        simp only [Act.put, List.setIfInBounds_toArray, List.set_cons_zero, List.set_cons_succ, i64_w, i32_w]
        rfl
      refine one_ (i := 8) (N := some 15) #[true, true, true, true, true, true, true, true, true, false, false, false, false, false, false, false] rfl rfl (one_of HT_.out (by kernel_rfl)) (by decide) (fun K hK => ?_)
      refine goes_ Try.func10 (by kernel_rfl) rfl #[.agg #[.int .i64 1, .bool false, .string (⟨#[118, 49, 45, 48]⟩ : ByteArray), .int .i64 0, .int .i64 2], .agg #[.int .i64 t222, .string t223, .int .i64 t224, .string t225, .slice Ao19 t226.length co19]] (by rfl) rfl rfl (by (try simp only [List.map_toArray, List.map_cons, List.map_nil]); first | done | rfl | (simp only [List.length_drop, List.length_take]; rfl)) ?_
      with_reducible refine (check_Part.calls k 1 false (⟨#[118, 49, 45, 48]⟩ : ByteArray) 0 2 t222 t223 t224 t225 _ _ t226 t229 _ ?side1 ?side2 A5.out).mono ?_
      (case side1 => repeat (first | exact (Kd.V_reads' HO228.out).2.2 | (with_reducible refine Kd.C_alloc ?_ _) | (with_reducible refine Kd.C_drewN ?_ _) | (with_reducible refine Kd.C_drew ?_)))
      (case side2 => exact (Kd.V_reads' HO228.out).2.1)
      rintro e w20 ⟨rfl, hb⟩
      refine ⟨_, rfl, ?_⟩
      have n0_ := AsZ.mk (Kd.R_below (by (with_reducible repeat (first | apply Kd.R_alloc | apply Kd.R_drewN | apply Kd.R_drew)); exact HO219.out) hb)
      have n1_ := AsZ.mk (Kd.V_below (by (with_reducible repeat (first | apply Kd.V_alloc | apply Kd.V_drewN | apply Kd.V_drew)); exact HO228.out) hb)
      have n2_ := AsZ.mk (bBl (g := gb212) (o := .cells #[.int .i64 1, .bool false, .string (⟨#[118, 49, 45, 48]⟩ : ByteArray), .int .i64 0, .int .i64 2] 25 (0, 0)) (by (with_reducible repeat first | apply bDn | apply bDr | apply bAl); exact BK212.out) hb)
      have n3_ := AsZ.mk (bBl (g := gb220) (o := .cells #[.int .i64 t213, .string t214, .int .i64 t215, .string t216, .slice Ao14 t217.length co14] 31 (0, 0)) (by (with_reducible repeat first | apply bDn | apply bDr | apply bAl); exact BK220.out) hb)
      have n4_ := AsZ.mk (tBl (by repeat (first | (with_reducible first | exact HB.out | apply aBl | apply pBd | apply dBl | refine sBl ?_ GE212.out | refine sBl ?_ GE220.out) | exact HB.out)) hb)
      clear HO219
      clear HO228
      clear BK212
      clear BK220
      clear HB
      have HO219 := n0_
      have HO228 := n1_
      have BK212 := n2_
      have BK220 := n3_
      have HB := n4_
      clear n0_ n1_ n2_ n3_ n4_
      (try clear hb)
      (try clear hb2)
      (try clear hk)
      (try clear hi)
      refine hK.out _ _ ⟨(bCe BK212.out 0).trans rfl, (bCe BK212.out 1).trans rfl, (bCe BK212.out 2).trans rfl, (bCe BK212.out 3).trans rfl, (bCe BK212.out 4).trans rfl, (bCe BK220.out 0).trans rfl, (bCe BK220.out 1).trans rfl, (bCe BK220.out 2).trans rfl, (bCe BK220.out 3).trans rfl, (bCe BK220.out 4).trans rfl⟩ (fun hHeld => ?_)
      clear hK K
      refine norm_ (a' := ?_) ?_ ?_
      rotate_left
      · show Act.put _ (some 15) _ = _
        simp only [Act.put, List.setIfInBounds_toArray, List.set_cons_zero, List.set_cons_succ, i64_w, i32_w]
        rfl
      refine pure_ (i := 9) (N := some 16) (v := ?_) (a' := ?_) #[true, true, true, true, true, true, true, true, true, true, false, false, false, false, false, false] rfl rfl (any_of HT_.out (by kernel_rfl)) (fun _ _ _ h => h) (Or.inl ⟨by rfl, ?_⟩) ?_ ?_
      rotate_left
      · intro w'
        go_simp
        with_reducible rfl
      rotate_left
      · simp only [Act.put, List.setIfInBounds_toArray, List.set_cons_zero, List.set_cons_succ, i64_w, i32_w]
        rfl
      refine pure_ (i := 10) (N := some 17) (v := ?_) (a' := ?_) #[true, true, true, true, true, true, true, true, true, true, true, false, false, false, false, false] rfl rfl (any_of HT_.out (by kernel_rfl)) (fun _ _ _ h => h) (Or.inl ⟨by rfl, ?_⟩) ?_ ?_
      rotate_left
      · intro w'
        go_simp
        with_reducible rfl
      rotate_left
      · simp only [Act.put, List.setIfInBounds_toArray, List.set_cons_zero, List.set_cons_succ, i64_w, i32_w]
        rfl
      refine pure_ (i := 11) (N := some 18) (v := ?_) (a' := ?_) #[true, true, true, true, true, true, true, true, true, true, true, true, false, false, false, false] rfl rfl (any_of HT_.out (by kernel_rfl)) (fun _ _ _ h => h) (Or.inl ⟨by rfl, ?_⟩) ?_ ?_
      rotate_left
      · intro w'
        go_simp
        with_reducible rfl
      rotate_left
      · simp only [Act.put, List.setIfInBounds_toArray, List.set_cons_zero, List.set_cons_succ, i64_w, i32_w]
        rfl
      refine one_ (i := 12) (N := some 19) #[true, true, true, true, true, true, true, true, true, true, true, true, true, false, false, false] rfl rfl (one_of HT_.out (by kernel_rfl)) (by decide) (fun K hK => ?_)
      refine goes_ Try.func11 (by kernel_rfl) rfl #[.int .i64 4] (by rfl) rfl rfl (by (try simp only [List.map_toArray, List.map_cons, List.map_nil]); first | done | rfl | (simp only [List.length_drop, List.length_take]; rfl)) ?_
      with_reducible refine (check_Word.calls 4 t230 _ A7.out).mono ?_
      rintro e w' ⟨rfl, ⟨nd, rfl⟩⟩
      refine ⟨_, rfl, ?_⟩
      refine hK.out _ _ ⟨(bCe BK212.out 0).trans rfl, (bCe BK212.out 1).trans rfl, (bCe BK212.out 2).trans rfl, (bCe BK212.out 3).trans rfl, (bCe BK212.out 4).trans rfl, (bCe BK220.out 0).trans rfl, (bCe BK220.out 1).trans rfl, (bCe BK220.out 2).trans rfl, (bCe BK220.out 3).trans rfl, (bCe BK220.out 4).trans rfl⟩ (fun hHeld => ?_)
      clear hK K
      refine norm_ (a' := ?_) ?_ ?_
      rotate_left
      · show Act.put _ (some 19) _ = _
        simp only [Act.put, List.setIfInBounds_toArray, List.set_cons_zero, List.set_cons_succ, i64_w, i32_w]
        rfl
      refine pure_ (i := 13) (N := some 20) (v := ?_) (a' := ?_) #[true, true, true, true, true, true, true, true, true, true, true, true, true, true, false, false] rfl rfl (any_of HT_.out (by kernel_rfl)) (fun _ _ _ h => h) (Or.inl ⟨by rfl, ?_⟩) ?_ ?_
      rotate_left
      · intro w'
        go_simp
        with_reducible rfl
      rotate_left
      · simp only [Act.put, List.setIfInBounds_toArray, List.set_cons_zero, List.set_cons_succ, i64_w, i32_w]
        rfl
      refine pure_ (i := 14) (N := some 21) (v := ?_) (a' := ?_) #[true, true, true, true, true, true, true, true, true, true, true, true, true, true, true, false] rfl rfl (any_of HT_.out (by kernel_rfl)) (fun _ _ _ h => h) (Or.inl ⟨by rfl, ?_⟩) ?_ ?_
      rotate_left
      · intro w'
        go_simp
        with_reducible rfl
      rotate_left
      · simp only [Act.put, List.setIfInBounds_toArray, List.set_cons_zero, List.set_cons_succ, i64_w, i32_w]
        rfl
      refine pure_ (i := 15) (N := some 0) (v := ?_) (a' := ?_) #[true, true, true, true, true, true, true, true, true, true, true, true, true, true, true, true] rfl rfl (any_of HT_.out (by kernel_rfl)) (fun _ _ _ h => h) (Or.inl ⟨by rfl, ?_⟩) ?_ ?_
      rotate_left
      · intro w'
        go_simp
        with_reducible rfl
      rotate_left
      · simp only [Act.put, List.setIfInBounds_toArray, List.set_cons_zero, List.set_cons_succ, i64_w, i32_w]
        rfl
      refine done_ (done_of HT_.out (by kernel_rfl)) ?_
      try go_wp2
      go_ret
      exact ⟨by first | rfl | exact nEm _ | exact eEm _ | (simp [eWn, eWs] <;> rfl) | (simp [*, eWn, eWs] <;> rfl), by repeat (first | (with_reducible first | exact HB.out | apply aBl | apply pBd | apply dBl | refine sBl ?_ GE212.out | refine sBl ?_ GE220.out) | exact HB.out)⟩
    · rw [if_neg c6] at H
      have c6b0 : (t229 == 3) = false := beq_eq_false_iff_ne.mpr c6
      have c6b1 : (t229 != 3) = true := bne_iff_ne.mpr c6
      obtain rfl := Option.some.inj H
      go_enter Try.func4, Try.ntmps4
      try go_wp2_with (first | ((with_reducible refine gDs (N := 1) rfl ?_); refine bEv ?hg (N := 1) ?hd (cs := #[.int .i64 0, .bool false, .string (⟨#[]⟩ : ByteArray), .int .i64 0, .int .i64 0]) (t := 25) ?hr ?_; (case hd => rfl); (case hg => rfl); (case hr => first | (go_simp; done) | (go_simp; rfl)); intro gb212 hg w21 hbox hb; have n0_ := AsZ.mk (tBl (by repeat (first | (with_reducible first | exact HB.out | apply aBl | apply pBd | apply dBl) | exact HB.out)) hb); have n1_ := AsZ.mk (hbox); have n2_ := AsZ.mk ((by rw [hg]; exact (zBl (by repeat (first | (with_reducible first | exact HB.out | apply aBl | apply pBd | apply dBl) | exact HB.out))) : w.heap.size ≤ gb212)); have n3_ := AsZ.mk ((by rw [hg]; exact (zBl (by repeat (first | (with_reducible first | exact HB.out | apply aBl | apply pBd | apply dBl) | exact HB.out))) : w.heap.size ≤ gb212)); clear HB; have HB := n0_; have BK212 := n1_; have GW212 := n2_; have GE212 := n3_; clear n0_ n1_ n2_ n3_; clear hb hbox hg; obtain ⟨hcz22_0, hcz22_1, hcz22_2, hcz22_3, hcz22_4⟩ := celN5 BK212.out; obtain ⟨hfz22_0, hfz22_1, hfz22_2, hfz22_3, hfz22_4⟩ := fzN5 BK212.out) | ((with_reducible refine gCa (f := 7) rfl ?_); refine gLl (some 6) rfl rfl Try.func7 (by kernel_rfl) rfl #[.agg #[.int .i64 1, .bool false, .string (⟨#[118, 49, 45, 48]⟩ : ByteArray), .int .i64 0, .int .i64 2], .int .i64 0] rfl (by (try simp only [List.map_toArray, List.map_cons, List.map_nil]); first | done | rfl | (simp only [List.length_drop, List.length_take]; rfl)) ?_; (with_reducible refine (spenceref24_Reply.calls k 1 false (⟨#[118, 49, 45, 48]⟩ : ByteArray) 0 2 0 t213 t214 t215 t216 t217 _ A1.out).mono ?_); rintro e w23 ⟨v218, rfl, ho0, hb⟩; refine ⟨_, rfl, ?_⟩; have n0_ := AsZ.mk (Kd.R_lower ho0 (zBl (by repeat (first | (with_reducible first | exact HB.out | apply aBl | apply pBd | apply dBl | refine sBl ?_ GE212.out) | exact HB.out)))); have n1_ := AsZ.mk (bBl (g := gb212) (o := .cells #[.int .i64 1, .bool false, .string (⟨#[118, 49, 45, 48]⟩ : ByteArray), .int .i64 0, .int .i64 2] 25 (0, 0)) (by (with_reducible repeat first | apply bDn | apply bDr | apply bAl); refine bPu (cs := #[.int .i64 1, .bool false, .string (⟨#[118, 49, 45, 48]⟩ : ByteArray), .int .i64 0, .int .i64 0]) ?_ 4 _ rfl; (with_reducible repeat first | apply bDn | apply bDr | apply bAl); refine bPu (cs := #[.int .i64 1, .bool false, .string (⟨#[118, 49, 45, 48]⟩ : ByteArray), .int .i64 0, .int .i64 0]) ?_ 3 _ rfl; (with_reducible repeat first | apply bDn | apply bDr | apply bAl); refine bPu (cs := #[.int .i64 1, .bool false, .string (⟨#[]⟩ : ByteArray), .int .i64 0, .int .i64 0]) ?_ 2 _ rfl; (with_reducible repeat first | apply bDn | apply bDr | apply bAl); refine bPu (cs := #[.int .i64 1, .bool false, .string (⟨#[]⟩ : ByteArray), .int .i64 0, .int .i64 0]) ?_ 1 _ rfl; (with_reducible repeat first | apply bDn | apply bDr | apply bAl); refine bPu (cs := #[.int .i64 0, .bool false, .string (⟨#[]⟩ : ByteArray), .int .i64 0, .int .i64 0]) ?_ 0 _ rfl; (with_reducible repeat first | apply bDn | apply bDr | apply bAl); exact BK212.out) hb); have n2_ := AsZ.mk (tBl (by repeat (first | (with_reducible first | exact HB.out | apply aBl | apply pBd | apply dBl | refine sBl ?_ GE212.out) | exact HB.out)) hb); clear BK212; clear HB; have HO219 := n0_; have BK212 := n1_; have HB := n2_; clear n0_ n1_ n2_; (try clear hb); (try clear hb2); (try clear hk); (try clear hi); (try clear ho0)) | ((with_reducible refine gDs (N := 2) rfl ?_); refine bEv ?hg (N := 2) ?hd (cs := #[.int .i64 0, .string (⟨#[]⟩ : ByteArray), .int .i64 0, .string (⟨#[]⟩ : ByteArray), .slice none 0 0]) (t := 31) ?hr ?_; (case hd => rfl); (case hg => rfl); (case hr => first | (go_simp; done) | (go_simp; rfl)); intro gb220 hg w24 hbox hb; have n0_ := AsZ.mk (Kd.R_below (by (with_reducible repeat (first | apply Kd.R_alloc | apply Kd.R_drewN | apply Kd.R_drew)); exact HO219.out) hb); have n1_ := AsZ.mk (bBl (g := gb212) (o := .cells #[.int .i64 1, .bool false, .string (⟨#[118, 49, 45, 48]⟩ : ByteArray), .int .i64 0, .int .i64 2] 25 (0, 0)) (by (with_reducible repeat first | apply bDn | apply bDr | apply bAl); exact BK212.out) hb); have n2_ := AsZ.mk (tBl (by repeat (first | (with_reducible first | exact HB.out | apply aBl | apply pBd | apply dBl | refine sBl ?_ GE212.out) | exact HB.out)) hb); have n3_ := AsZ.mk (hbox); have n4_ := AsZ.mk ((by rw [hg]; exact (zBl (by repeat (first | (with_reducible first | exact HB.out | apply aBl | apply pBd | apply dBl | refine sBl ?_ GE212.out) | exact HB.out))) : w.heap.size ≤ gb220)); have n5_ := AsZ.mk ((by rw [hg]; exact (zBl (by repeat (first | (with_reducible first | exact HB.out | apply aBl | apply pBd | apply dBl | refine sBl ?_ GE212.out) | exact HB.out))) : w.heap.size ≤ gb220)); have n6_ := AsZ.mk ((by rw [hg]; exact Nat.ne_of_lt (bLt (g := gb212) (o := .cells #[.int .i64 1, .bool false, .string (⟨#[118, 49, 45, 48]⟩ : ByteArray), .int .i64 0, .int .i64 2] 25 (0, 0)) (by (with_reducible repeat first | apply bDn | apply bDr | apply bAl); exact BK212.out)) : gb212 ≠ gb220)); have n7_ := AsZ.mk ((by rw [hg]; exact Nat.ne_of_gt (bLt (g := gb212) (o := .cells #[.int .i64 1, .bool false, .string (⟨#[118, 49, 45, 48]⟩ : ByteArray), .int .i64 0, .int .i64 2] 25 (0, 0)) (by (with_reducible repeat first | apply bDn | apply bDr | apply bAl); exact BK212.out)) : gb220 ≠ gb212)); clear HO219; clear BK212; clear HB; have HO219 := n0_; have BK212 := n1_; have HB := n2_; have BK220 := n3_; have GW220 := n4_; have GE220 := n5_; have NB212_220 := n6_; have NB220_212 := n7_; clear n0_ n1_ n2_ n3_ n4_ n5_ n6_ n7_; clear hb hbox hg; have hnb25 := NB220_212.out; have hnc25 := NB212_220.out; obtain ⟨hcz26_0, hcz26_1, hcz26_2, hcz26_3, hcz26_4⟩ := celN5 BK220.out; obtain ⟨hfz26_0, hfz26_1, hfz26_2, hfz26_3, hfz26_4⟩ := fzN5 BK220.out; obtain ⟨Ao27, co27, eo27⟩ := Kd.R_slice HO219.out; subst eo27))
      have n0_ : AsZ (Kd.R (Kd.int .u8) 5 (((((w24.setCell ⟨gb220, 0, none⟩ (.int .i64 t213)).setCell ⟨gb220, 1, none⟩ (.string t214)).setCell ⟨gb220, 2, none⟩ (.int .i64 t215)).setCell ⟨gb220, 3, none⟩ (.string t216)).setCell ⟨gb220, 4, none⟩ (.slice Ao27 t217.length co27)) w.heap.size (fun _ => True) (.slice Ao27 t217.length co27) t217) := ⟨by (with_reducible repeat (first | apply Kd.R_alloc | apply Kd.R_drewN | apply Kd.R_drew)); exact Kd.R_mono (Kd.R_far (p := ⟨gb220, 4, none⟩) (Kd.R_far (p := ⟨gb220, 3, none⟩) (Kd.R_far (p := ⟨gb220, 2, none⟩) (Kd.R_far (p := ⟨gb220, 1, none⟩) (Kd.R_far (p := ⟨gb220, 0, none⟩) (Kd.R_types HO219.out BK220.out (by decide)) (fun _ hk => hk.2) (.int .i64 t213)) (fun _ hk => hk.2) (.string t214)) (fun _ hk => hk.2) (.int .i64 t215)) (fun _ hk => hk.2) (.string t216)) (fun _ hk => hk.2) (.slice Ao27 t217.length co27)) (fun _ hk => trivial)⟩
      have n1_ : AsZ ((((((w24.setCell ⟨gb220, 0, none⟩ (.int .i64 t213)).setCell ⟨gb220, 1, none⟩ (.string t214)).setCell ⟨gb220, 2, none⟩ (.int .i64 t215)).setCell ⟨gb220, 3, none⟩ (.string t216)).setCell ⟨gb220, 4, none⟩ (.slice Ao27 t217.length co27)).heap[gb212]? = some (.cells #[.int .i64 1, .bool false, .string (⟨#[118, 49, 45, 48]⟩ : ByteArray), .int .i64 0, .int .i64 2] 25 (0, 0))) := ⟨by (with_reducible repeat first | apply bDn | apply bDr | apply bAl); refine bFr ?_ NB212_220.out _; (with_reducible repeat first | apply bDn | apply bDr | apply bAl); refine bFr ?_ NB212_220.out _; (with_reducible repeat first | apply bDn | apply bDr | apply bAl); refine bFr ?_ NB212_220.out _; (with_reducible repeat first | apply bDn | apply bDr | apply bAl); refine bFr ?_ NB212_220.out _; (with_reducible repeat first | apply bDn | apply bDr | apply bAl); refine bFr ?_ NB212_220.out _; (with_reducible repeat first | apply bDn | apply bDr | apply bAl); exact BK212.out⟩
      have n2_ : AsZ ((((((w24.setCell ⟨gb220, 0, none⟩ (.int .i64 t213)).setCell ⟨gb220, 1, none⟩ (.string t214)).setCell ⟨gb220, 2, none⟩ (.int .i64 t215)).setCell ⟨gb220, 3, none⟩ (.string t216)).setCell ⟨gb220, 4, none⟩ (.slice Ao27 t217.length co27)).heap[gb220]? = some (.cells #[.int .i64 t213, .string t214, .int .i64 t215, .string t216, .slice Ao27 t217.length co27] 31 (0, 0))) := ⟨by (with_reducible repeat first | apply bDn | apply bDr | apply bAl); refine bPu (cs := #[.int .i64 t213, .string t214, .int .i64 t215, .string t216, .slice none 0 0]) ?_ 4 _ rfl; (with_reducible repeat first | apply bDn | apply bDr | apply bAl); refine bPu (cs := #[.int .i64 t213, .string t214, .int .i64 t215, .string (⟨#[]⟩ : ByteArray), .slice none 0 0]) ?_ 3 _ rfl; (with_reducible repeat first | apply bDn | apply bDr | apply bAl); refine bPu (cs := #[.int .i64 t213, .string t214, .int .i64 0, .string (⟨#[]⟩ : ByteArray), .slice none 0 0]) ?_ 2 _ rfl; (with_reducible repeat first | apply bDn | apply bDr | apply bAl); refine bPu (cs := #[.int .i64 t213, .string (⟨#[]⟩ : ByteArray), .int .i64 0, .string (⟨#[]⟩ : ByteArray), .slice none 0 0]) ?_ 1 _ rfl; (with_reducible repeat first | apply bDn | apply bDr | apply bAl); refine bPu (cs := #[.int .i64 0, .string (⟨#[]⟩ : ByteArray), .int .i64 0, .string (⟨#[]⟩ : ByteArray), .slice none 0 0]) ?_ 0 _ rfl; (with_reducible repeat first | apply bDn | apply bDr | apply bAl); exact BK220.out⟩
      have n3_ : AsZ (Below w.heap.size w (((((w24.setCell ⟨gb220, 0, none⟩ (.int .i64 t213)).setCell ⟨gb220, 1, none⟩ (.string t214)).setCell ⟨gb220, 2, none⟩ (.int .i64 t215)).setCell ⟨gb220, 3, none⟩ (.string t216)).setCell ⟨gb220, 4, none⟩ (.slice Ao27 t217.length co27))) := ⟨by repeat (first | (with_reducible first | exact HB.out | apply aBl | apply pBd | apply dBl | refine sBl ?_ GE212.out | refine sBl ?_ GE220.out) | exact HB.out)⟩
      (try clear HO219)
      (try clear BK212)
      (try clear BK220)
      (try clear HB)
      generalize (((((w24.setCell ⟨gb220, 0, none⟩ (.int .i64 t213)).setCell ⟨gb220, 1, none⟩ (.string t214)).setCell ⟨gb220, 2, none⟩ (.int .i64 t215)).setCell ⟨gb220, 3, none⟩ (.string t216)).setCell ⟨gb220, 4, none⟩ (.slice Ao27 t217.length co27)) = w28 at n0_ n1_ n2_ n3_ ⊢
      have HO219 := n0_
      have BK212 := n1_
      have BK220 := n2_
      have HB := n3_
      clear n0_ n1_ n2_ n3_
      have n0_ := AsZ.mk (Kd.R_drew HO219.out)
      have n1_ := AsZ.mk (bDr BK212.out)
      have n2_ := AsZ.mk (bDr BK220.out)
      have n3_ := AsZ.mk (dBl HB.out)
      clear HO219
      clear BK212
      clear BK220
      clear HB
      have HO219 := n0_
      have BK212 := n1_
      have BK220 := n2_
      have HB := n3_
      clear n0_ n1_ n2_ n3_
      refine start_ (n := 16) (S := fun w' => w'.cell? ⟨gb212, 0, none⟩ = some (.int .i64 1) ∧ w'.cell? ⟨gb212, 1, none⟩ = some (.bool false) ∧ w'.cell? ⟨gb212, 2, none⟩ = some (.string (⟨#[118, 49, 45, 48]⟩ : ByteArray)) ∧ w'.cell? ⟨gb212, 3, none⟩ = some (.int .i64 0) ∧ w'.cell? ⟨gb212, 4, none⟩ = some (.int .i64 2) ∧ w'.cell? ⟨gb220, 0, none⟩ = some (.int .i64 t213) ∧ w'.cell? ⟨gb220, 1, none⟩ = some (.string t214) ∧ w'.cell? ⟨gb220, 2, none⟩ = some (.int .i64 t215) ∧ w'.cell? ⟨gb220, 3, none⟩ = some (.string t216) ∧ w'.cell? ⟨gb220, 4, none⟩ = some (.slice Ao27 t217.length co27)) (ds := []) #[false, false, false, false, false, false, false, false, false, false, false, false, false, false, false, false] (by kernel_rfl) rfl rfl ⟨(bCe BK212.out 0).trans rfl, (bCe BK212.out 1).trans rfl, (bCe BK212.out 2).trans rfl, (bCe BK212.out 3).trans rfl, (bCe BK212.out 4).trans rfl, (bCe BK220.out 0).trans rfl, (bCe BK220.out 1).trans rfl, (bCe BK220.out 2).trans rfl, (bCe BK220.out 3).trans rfl, (bCe BK220.out 4).trans rfl⟩ (fun hHeld => ?_); refine with_tabW spencelaw33_awake.tab3 spencelaw33_awake.bits3 (fun HT_ HW_ => ?_)
      generalize w28.drew = w29 at HO219 BK212 BK220 HB hHeld ⊢
      refine take_ (i := 0) (N := some 7) (v := ?_) (a' := ?_) #[true, false, false, false, false, false, false, false, false, false, false, false, false, false, false, false] rfl rfl (take_ofW HT_.out HW_.out (by kernel_rfl)) (fun _ _ _ h => h) (Or.inl ⟨by rfl, ?_⟩) hHeld ?_ ?_
      rotate_left
      · rintro w' ⟨s0, s1, s2, s3, s4, s5, s6, s7, s8, s9⟩
        go_simp
        with_reducible rfl
      rotate_left
      · simp only [Act.put, List.setIfInBounds_toArray, List.set_cons_zero, List.set_cons_succ, i64_w, i32_w]
        rfl
      refine take_ (i := 1) (N := some 8) (v := ?_) (a' := ?_) #[true, true, false, false, false, false, false, false, false, false, false, false, false, false, false, false] rfl rfl (take_ofW HT_.out HW_.out (by kernel_rfl)) (fun _ _ _ h => h) (Or.inl ⟨by rfl, ?_⟩) hHeld ?_ ?_
      rotate_left
      · rintro w' ⟨s0, s1, s2, s3, s4, s5, s6, s7, s8, s9⟩
        go_simp
        with_reducible rfl
      rotate_left
      · simp only [Act.put, List.setIfInBounds_toArray, List.set_cons_zero, List.set_cons_succ, i64_w, i32_w]
        rfl
      refine one_ (i := 2) (N := some 9) #[true, true, true, false, false, false, false, false, false, false, false, false, false, false, false, false] rfl rfl (one_of HT_.out (by kernel_rfl)) (by decide) (fun K hK => ?_)
      refine goes_ Try.func10 (by kernel_rfl) rfl #[.agg #[.int .i64 1, .bool false, .string (⟨#[118, 49, 45, 48]⟩ : ByteArray), .int .i64 0, .int .i64 2], .agg #[.int .i64 t213, .string t214, .int .i64 t215, .string t216, .slice Ao27 t217.length co27]] (by rfl) rfl rfl (by (try simp only [List.map_toArray, List.map_cons, List.map_nil]); first | done | rfl | (simp only [List.length_drop, List.length_take]; rfl)) ?_
      with_reducible refine (check_Part.calls k 1 false (⟨#[118, 49, 45, 48]⟩ : ByteArray) 0 2 t213 t214 t215 t216 _ _ t217 t221 _ ?side1 ?side2 A2.out).mono ?_
      (case side1 => repeat (first | exact (Kd.R_reads' HO219.out).2.2 | (with_reducible refine Kd.C_alloc ?_ _) | (with_reducible refine Kd.C_drewN ?_ _) | (with_reducible refine Kd.C_drew ?_)))
      (case side2 => exact (Kd.R_reads' HO219.out).2.1)
      rintro e w30 ⟨rfl, hb⟩
      refine ⟨_, rfl, ?_⟩
      have n0_ := AsZ.mk (Kd.R_below (by (with_reducible repeat (first | apply Kd.R_alloc | apply Kd.R_drewN | apply Kd.R_drew)); exact HO219.out) hb)
      have n1_ := AsZ.mk (bBl (g := gb212) (o := .cells #[.int .i64 1, .bool false, .string (⟨#[118, 49, 45, 48]⟩ : ByteArray), .int .i64 0, .int .i64 2] 25 (0, 0)) (by (with_reducible repeat first | apply bDn | apply bDr | apply bAl); exact BK212.out) hb)
      have n2_ := AsZ.mk (bBl (g := gb220) (o := .cells #[.int .i64 t213, .string t214, .int .i64 t215, .string t216, .slice Ao27 t217.length co27] 31 (0, 0)) (by (with_reducible repeat first | apply bDn | apply bDr | apply bAl); exact BK220.out) hb)
      have n3_ := AsZ.mk (tBl (by repeat (first | (with_reducible first | exact HB.out | apply aBl | apply pBd | apply dBl | refine sBl ?_ GE212.out | refine sBl ?_ GE220.out) | exact HB.out)) hb)
      clear HO219
      clear BK212
      clear BK220
      clear HB
      have HO219 := n0_
      have BK212 := n1_
      have BK220 := n2_
      have HB := n3_
      clear n0_ n1_ n2_ n3_
      (try clear hb)
      (try clear hb2)
      (try clear hk)
      (try clear hi)
      refine hK.out _ _ ⟨(bCe BK212.out 0).trans rfl, (bCe BK212.out 1).trans rfl, (bCe BK212.out 2).trans rfl, (bCe BK212.out 3).trans rfl, (bCe BK212.out 4).trans rfl, (bCe BK220.out 0).trans rfl, (bCe BK220.out 1).trans rfl, (bCe BK220.out 2).trans rfl, (bCe BK220.out 3).trans rfl, (bCe BK220.out 4).trans rfl⟩ (fun hHeld => ?_)
      clear hK K
      refine norm_ (a' := ?_) ?_ ?_
      rotate_left
      · show Act.put _ (some 9) _ = _
        simp only [Act.put, List.setIfInBounds_toArray, List.set_cons_zero, List.set_cons_succ, i64_w, i32_w]
        rfl
      refine pure_ (i := 3) (N := some 10) (v := ?_) (a' := ?_) #[true, true, true, true, false, false, false, false, false, false, false, false, false, false, false, false] rfl rfl (any_of HT_.out (by kernel_rfl)) (fun _ _ _ h => h) (Or.inl ⟨by rfl, ?_⟩) ?_ ?_
      rotate_left
      · intro w'
        go_simp
        with_reducible rfl
      rotate_left
      · simp only [Act.put, List.setIfInBounds_toArray, List.set_cons_zero, List.set_cons_succ, i64_w, i32_w]
        rfl
      refine pure_ (i := 4) (N := some 11) (v := ?_) (a' := ?_) #[true, true, true, true, true, false, false, false, false, false, false, false, false, false, false, false] rfl rfl (any_of HT_.out (by kernel_rfl)) (fun _ _ _ h => h) (Or.inl ⟨by rfl, ?_⟩) ?_ ?_
      rotate_left
      · intro w'
        go_simp
        with_reducible rfl
      rotate_left
      · simp only [Act.put, List.setIfInBounds_toArray, List.set_cons_zero, List.set_cons_succ, i64_w, i32_w]
        rfl
      refine take_ (i := 5) (N := some 12) (v := ?_) (a' := ?_) #[true, true, true, true, true, true, false, false, false, false, false, false, false, false, false, false] rfl rfl (take_ofW HT_.out HW_.out (by kernel_rfl)) (fun _ _ _ h => h) (Or.inl ⟨by rfl, ?_⟩) hHeld ?_ ?_
      rotate_left
      · rintro w' ⟨s0, s1, s2, s3, s4, s5, s6, s7, s8, s9⟩
        go_simp
        with_reducible rfl
      rotate_left
      · simp only [Act.put, List.setIfInBounds_toArray, List.set_cons_zero, List.set_cons_succ, i64_w, i32_w]
        rfl
      refine take_ (i := 6) (N := some 13) (v := ?_) (a' := ?_) #[true, true, true, true, true, true, true, false, false, false, false, false, false, false, false, false] rfl rfl (take_ofW HT_.out HW_.out (by kernel_rfl)) (fun _ _ _ h => h) (Or.inl ⟨by rfl, ?_⟩) hHeld ?_ ?_
      rotate_left
      · rintro w' ⟨s0, s1, s2, s3, s4, s5, s6, s7, s8, s9⟩
        go_simp
        with_reducible rfl
      rotate_left
      · simp only [Act.put, List.setIfInBounds_toArray, List.set_cons_zero, List.set_cons_succ, i64_w, i32_w]
        rfl
      refine one_ (i := 7) (N := some 14) #[true, true, true, true, true, true, true, true, false, false, false, false, false, false, false, false] rfl rfl (one_of HT_.out (by kernel_rfl)) (by decide) (fun K hK => ?_)
      refine goes_ Try.func9 (by kernel_rfl) rfl #[.int .i64 2, .agg #[.int .i64 t213, .string t214, .int .i64 t215, .string t216, .slice Ao27 t217.length co27]] (by rfl) rfl rfl (by (try simp only [List.map_toArray, List.map_cons, List.map_nil]); first | done | rfl | (simp only [List.length_drop, List.length_take]; rfl)) ?_
      with_reducible refine (spenceref24_Faulty.calls k 2 t213 t214 t215 t216 (fun k_ => some k_ = (.slice Ao27 t217.length co27 : Value).ownBlock) _ _ t217 t222 t223 t224 t225 t226 _ ?side1 A4.out).mono ?_
      (case side1 => exact Kd.R_V (Kd.R_tight rfl (Kd.R_types (Kd.R_types (HO219.out) BK212.out (by decide)) BK220.out (by decide))))
      rintro e w31 ⟨v227, rfl, ho0, hb⟩
      refine ⟨_, rfl, ?_⟩
      have n0_ := AsZ.mk (Kd.R_below (by (with_reducible repeat (first | apply Kd.R_alloc | apply Kd.R_drewN | apply Kd.R_drew)); exact HO219.out) hb)
      have n1_ := AsZ.mk (Kd.V_lower (Kd.V_mono (ok' := fun k_ => k_ ≠ gb212 ∧ k_ ≠ gb220) ho0 (fun k_ hk_ => ⟨Or.elim hk_ (fun hs_ => ((Kd.R_types (Kd.R_types (HO219.out) BK212.out (by decide)) BK220.out (by decide)).1 k_ hs_.symm).1.2) (fun hn_ => (Kd.freshB (g := gb212) (o := .cells #[.int .i64 1, .bool false, .string (⟨#[118, 49, 45, 48]⟩ : ByteArray), .int .i64 0, .int .i64 2] 25 (0, 0)) (by (with_reducible repeat first | apply bDn | apply bDr | apply bAl); exact BK212.out) k_ hn_)), Or.elim hk_ (fun hs_ => ((Kd.R_types (Kd.R_types (HO219.out) BK212.out (by decide)) BK220.out (by decide)).1 k_ hs_.symm).2) (fun hn_ => (Kd.freshB (g := gb220) (o := .cells #[.int .i64 t213, .string t214, .int .i64 t215, .string t216, .slice Ao27 t217.length co27] 31 (0, 0)) (by (with_reducible repeat first | apply bDn | apply bDr | apply bAl); exact BK220.out) k_ hn_))⟩)) (zBl (by repeat (first | (with_reducible first | exact HB.out | apply aBl | apply pBd | apply dBl | refine sBl ?_ GE212.out | refine sBl ?_ GE220.out) | exact HB.out))))
      have n2_ := AsZ.mk (bBl (g := gb212) (o := .cells #[.int .i64 1, .bool false, .string (⟨#[118, 49, 45, 48]⟩ : ByteArray), .int .i64 0, .int .i64 2] 25 (0, 0)) (by (with_reducible repeat first | apply bDn | apply bDr | apply bAl); exact BK212.out) hb)
      have n3_ := AsZ.mk (bBl (g := gb220) (o := .cells #[.int .i64 t213, .string t214, .int .i64 t215, .string t216, .slice Ao27 t217.length co27] 31 (0, 0)) (by (with_reducible repeat first | apply bDn | apply bDr | apply bAl); exact BK220.out) hb)
      have n4_ := AsZ.mk (tBl (by repeat (first | (with_reducible first | exact HB.out | apply aBl | apply pBd | apply dBl | refine sBl ?_ GE212.out | refine sBl ?_ GE220.out) | exact HB.out)) hb)
      clear HO219
      clear BK212
      clear BK220
      clear HB
      have HO219 := n0_
      have HO228 := n1_
      have BK212 := n2_
      have BK220 := n3_
      have HB := n4_
      clear n0_ n1_ n2_ n3_ n4_
      (try clear hb)
      (try clear hb2)
      (try clear hk)
      (try clear hi)
      (try clear ho0)
      obtain ⟨Ao32, co32, eo32⟩ := Kd.V_slice HO228.out
      (first | subst eo32 | (injection eo32 with f1_ f2_ f3_; have f4_ := f1_.symm; have f5_ := f3_.symm; clear f1_ f2_ f3_; subst f4_; subst f5_))
      refine hK.out _ _ ⟨(bCe BK212.out 0).trans rfl, (bCe BK212.out 1).trans rfl, (bCe BK212.out 2).trans rfl, (bCe BK212.out 3).trans rfl, (bCe BK212.out 4).trans rfl, (bCe BK220.out 0).trans rfl, (bCe BK220.out 1).trans rfl, (bCe BK220.out 2).trans rfl, (bCe BK220.out 3).trans rfl, (bCe BK220.out 4).trans rfl⟩ (fun hHeld => ?_)
      clear hK K
      refine norm_ (a' := ?_) ?_ ?_
      rotate_left
      · show Act.put _ (some 14) _ = _
        simp only [Act.put, List.setIfInBounds_toArray, List.set_cons_zero, List.set_cons_succ, i64_w, i32_w]
        rfl
      refine one_ (i := 8) (N := some 15) #[true, true, true, true, true, true, true, true, true, false, false, false, false, false, false, false] rfl rfl (one_of HT_.out (by kernel_rfl)) (by decide) (fun K hK => ?_)
      refine goes_ Try.func10 (by kernel_rfl) rfl #[.agg #[.int .i64 1, .bool false, .string (⟨#[118, 49, 45, 48]⟩ : ByteArray), .int .i64 0, .int .i64 2], .agg #[.int .i64 t222, .string t223, .int .i64 t224, .string t225, .slice Ao32 t226.length co32]] (by rfl) rfl rfl (by (try simp only [List.map_toArray, List.map_cons, List.map_nil]); first | done | rfl | (simp only [List.length_drop, List.length_take]; rfl)) ?_
      with_reducible refine (check_Part.calls k 1 false (⟨#[118, 49, 45, 48]⟩ : ByteArray) 0 2 t222 t223 t224 t225 _ _ t226 t229 _ ?side1 ?side2 A5.out).mono ?_
      (case side1 => repeat (first | exact (Kd.V_reads' HO228.out).2.2 | (with_reducible refine Kd.C_alloc ?_ _) | (with_reducible refine Kd.C_drewN ?_ _) | (with_reducible refine Kd.C_drew ?_)))
      (case side2 => exact (Kd.V_reads' HO228.out).2.1)
      rintro e w33 ⟨rfl, hb⟩
      refine ⟨_, rfl, ?_⟩
      have n0_ := AsZ.mk (Kd.R_below (by (with_reducible repeat (first | apply Kd.R_alloc | apply Kd.R_drewN | apply Kd.R_drew)); exact HO219.out) hb)
      have n1_ := AsZ.mk (Kd.V_below (by (with_reducible repeat (first | apply Kd.V_alloc | apply Kd.V_drewN | apply Kd.V_drew)); exact HO228.out) hb)
      have n2_ := AsZ.mk (bBl (g := gb212) (o := .cells #[.int .i64 1, .bool false, .string (⟨#[118, 49, 45, 48]⟩ : ByteArray), .int .i64 0, .int .i64 2] 25 (0, 0)) (by (with_reducible repeat first | apply bDn | apply bDr | apply bAl); exact BK212.out) hb)
      have n3_ := AsZ.mk (bBl (g := gb220) (o := .cells #[.int .i64 t213, .string t214, .int .i64 t215, .string t216, .slice Ao27 t217.length co27] 31 (0, 0)) (by (with_reducible repeat first | apply bDn | apply bDr | apply bAl); exact BK220.out) hb)
      have n4_ := AsZ.mk (tBl (by repeat (first | (with_reducible first | exact HB.out | apply aBl | apply pBd | apply dBl | refine sBl ?_ GE212.out | refine sBl ?_ GE220.out) | exact HB.out)) hb)
      clear HO219
      clear HO228
      clear BK212
      clear BK220
      clear HB
      have HO219 := n0_
      have HO228 := n1_
      have BK212 := n2_
      have BK220 := n3_
      have HB := n4_
      clear n0_ n1_ n2_ n3_ n4_
      (try clear hb)
      (try clear hb2)
      (try clear hk)
      (try clear hi)
      refine hK.out _ _ ⟨(bCe BK212.out 0).trans rfl, (bCe BK212.out 1).trans rfl, (bCe BK212.out 2).trans rfl, (bCe BK212.out 3).trans rfl, (bCe BK212.out 4).trans rfl, (bCe BK220.out 0).trans rfl, (bCe BK220.out 1).trans rfl, (bCe BK220.out 2).trans rfl, (bCe BK220.out 3).trans rfl, (bCe BK220.out 4).trans rfl⟩ (fun hHeld => ?_)
      clear hK K
      refine norm_ (a' := ?_) ?_ ?_
      rotate_left
      · show Act.put _ (some 15) _ = _
        simp only [Act.put, List.setIfInBounds_toArray, List.set_cons_zero, List.set_cons_succ, i64_w, i32_w]
        rfl
      refine pure_ (i := 9) (N := some 16) (v := ?_) (a' := ?_) #[true, true, true, true, true, true, true, true, true, true, false, false, false, false, false, false] rfl rfl (any_of HT_.out (by kernel_rfl)) (fun _ _ _ h => h) (Or.inl ⟨by rfl, ?_⟩) ?_ ?_
      rotate_left
      · intro w'
        go_simp
        with_reducible rfl
      rotate_left
      · simp only [Act.put, List.setIfInBounds_toArray, List.set_cons_zero, List.set_cons_succ, i64_w, i32_w]
        rfl
      refine pure_ (i := 10) (N := some 17) (v := ?_) (a' := ?_) #[true, true, true, true, true, true, true, true, true, true, true, false, false, false, false, false] rfl rfl (any_of HT_.out (by kernel_rfl)) (fun _ _ _ h => h) (Or.inl ⟨by rfl, ?_⟩) ?_ ?_
      rotate_left
      · intro w'
        go_simp
        with_reducible rfl
      rotate_left
      · simp only [Act.put, List.setIfInBounds_toArray, List.set_cons_zero, List.set_cons_succ, i64_w, i32_w]
        rfl
      refine pure_ (i := 11) (N := some 18) (v := ?_) (a' := ?_) #[true, true, true, true, true, true, true, true, true, true, true, true, false, false, false, false] rfl rfl (any_of HT_.out (by kernel_rfl)) (fun _ _ _ h => h) (Or.inl ⟨by rfl, ?_⟩) ?_ ?_
      rotate_left
      · intro w'
        go_simp
        with_reducible rfl
      rotate_left
      · simp only [Act.put, List.setIfInBounds_toArray, List.set_cons_zero, List.set_cons_succ, i64_w, i32_w]
        rfl
      refine pure_ (i := 12) (N := some 19) (v := undef) (a' := ?_) #[true, true, true, true, true, true, true, true, true, true, true, true, true, false, false, false] rfl rfl (any_of HT_.out (by kernel_rfl)) (fun _ _ _ h => h) (Or.inr ⟨by rfl, rfl⟩) ?_ ?_
      rotate_left
      · simp only [Act.put, List.setIfInBounds_toArray, List.set_cons_zero, List.set_cons_succ, i64_w, i32_w]
        rfl
      refine pure_ (i := 13) (N := some 20) (v := undef) (a' := ?_) #[true, true, true, true, true, true, true, true, true, true, true, true, true, true, false, false] rfl rfl (any_of HT_.out (by kernel_rfl)) (fun _ _ _ h => h) (Or.inr ⟨by rfl, rfl⟩) ?_ ?_
      rotate_left
      · simp only [Act.put, List.setIfInBounds_toArray, List.set_cons_zero, List.set_cons_succ, i64_w, i32_w]
        rfl
      refine pure_ (i := 14) (N := some 21) (v := ?_) (a' := ?_) #[true, true, true, true, true, true, true, true, true, true, true, true, true, true, true, false] rfl rfl (any_of HT_.out (by kernel_rfl)) (fun _ _ _ h => h) (Or.inl ⟨by rfl, ?_⟩) ?_ ?_
      rotate_left
      · intro w'
        go_simp
        with_reducible rfl
      rotate_left
      · simp only [Act.put, List.setIfInBounds_toArray, List.set_cons_zero, List.set_cons_succ, i64_w, i32_w]
        rfl
      refine pure_ (i := 15) (N := some 0) (v := ?_) (a' := ?_) #[true, true, true, true, true, true, true, true, true, true, true, true, true, true, true, true] rfl rfl (any_of HT_.out (by kernel_rfl)) (fun _ _ _ h => h) (Or.inl ⟨by rfl, ?_⟩) ?_ ?_
      rotate_left
      · intro w'
        go_simp
        with_reducible rfl
      rotate_left
      · simp only [Act.put, List.setIfInBounds_toArray, List.set_cons_zero, List.set_cons_succ, i64_w, i32_w]
        rfl
      refine done_ (done_of HT_.out (by kernel_rfl)) ?_
      try go_wp2
      go_ret
      exact ⟨by first | rfl | exact nEm _ | exact eEm _ | (simp [eWn, eWs] <;> rfl) | (simp [*, eWn, eWs] <;> rfl), by repeat (first | (with_reducible first | exact HB.out | apply aBl | apply pBd | apply dBl | refine sBl ?_ GE212.out | refine sBl ?_ GE220.out) | exact HB.out)⟩
  · rw [if_neg c3] at H
    have c3b0 : (t221 == 0) = false := beq_eq_false_iff_ne.mpr c3
    have c3b1 : (t221 != 0) = true := bne_iff_ne.mpr c3
    obtain rfl := Option.some.inj H
    go_enter Try.func4, Try.ntmps4
    try go_wp2_with (first | ((with_reducible refine gDs (N := 1) rfl ?_); refine bEv ?hg (N := 1) ?hd (cs := #[.int .i64 0, .bool false, .string (⟨#[]⟩ : ByteArray), .int .i64 0, .int .i64 0]) (t := 25) ?hr ?_; (case hd => rfl); (case hg => rfl); (case hr => first | (go_simp; done) | (go_simp; rfl)); intro gb212 hg w34 hbox hb; have n0_ := AsZ.mk (tBl (by repeat (first | (with_reducible first | exact HB.out | apply aBl | apply pBd | apply dBl) | exact HB.out)) hb); have n1_ := AsZ.mk (hbox); have n2_ := AsZ.mk ((by rw [hg]; exact (zBl (by repeat (first | (with_reducible first | exact HB.out | apply aBl | apply pBd | apply dBl) | exact HB.out))) : w.heap.size ≤ gb212)); have n3_ := AsZ.mk ((by rw [hg]; exact (zBl (by repeat (first | (with_reducible first | exact HB.out | apply aBl | apply pBd | apply dBl) | exact HB.out))) : w.heap.size ≤ gb212)); clear HB; have HB := n0_; have BK212 := n1_; have GW212 := n2_; have GE212 := n3_; clear n0_ n1_ n2_ n3_; clear hb hbox hg; obtain ⟨hcz35_0, hcz35_1, hcz35_2, hcz35_3, hcz35_4⟩ := celN5 BK212.out; obtain ⟨hfz35_0, hfz35_1, hfz35_2, hfz35_3, hfz35_4⟩ := fzN5 BK212.out) | ((with_reducible refine gCa (f := 7) rfl ?_); refine gLl (some 6) rfl rfl Try.func7 (by kernel_rfl) rfl #[.agg #[.int .i64 1, .bool false, .string (⟨#[118, 49, 45, 48]⟩ : ByteArray), .int .i64 0, .int .i64 2], .int .i64 0] rfl (by (try simp only [List.map_toArray, List.map_cons, List.map_nil]); first | done | rfl | (simp only [List.length_drop, List.length_take]; rfl)) ?_; (with_reducible refine (spenceref24_Reply.calls k 1 false (⟨#[118, 49, 45, 48]⟩ : ByteArray) 0 2 0 t213 t214 t215 t216 t217 _ A1.out).mono ?_); rintro e w36 ⟨v218, rfl, ho0, hb⟩; refine ⟨_, rfl, ?_⟩; have n0_ := AsZ.mk (Kd.R_lower ho0 (zBl (by repeat (first | (with_reducible first | exact HB.out | apply aBl | apply pBd | apply dBl | refine sBl ?_ GE212.out) | exact HB.out)))); have n1_ := AsZ.mk (bBl (g := gb212) (o := .cells #[.int .i64 1, .bool false, .string (⟨#[118, 49, 45, 48]⟩ : ByteArray), .int .i64 0, .int .i64 2] 25 (0, 0)) (by (with_reducible repeat first | apply bDn | apply bDr | apply bAl); refine bPu (cs := #[.int .i64 1, .bool false, .string (⟨#[118, 49, 45, 48]⟩ : ByteArray), .int .i64 0, .int .i64 0]) ?_ 4 _ rfl; (with_reducible repeat first | apply bDn | apply bDr | apply bAl); refine bPu (cs := #[.int .i64 1, .bool false, .string (⟨#[118, 49, 45, 48]⟩ : ByteArray), .int .i64 0, .int .i64 0]) ?_ 3 _ rfl; (with_reducible repeat first | apply bDn | apply bDr | apply bAl); refine bPu (cs := #[.int .i64 1, .bool false, .string (⟨#[]⟩ : ByteArray), .int .i64 0, .int .i64 0]) ?_ 2 _ rfl; (with_reducible repeat first | apply bDn | apply bDr | apply bAl); refine bPu (cs := #[.int .i64 1, .bool false, .string (⟨#[]⟩ : ByteArray), .int .i64 0, .int .i64 0]) ?_ 1 _ rfl; (with_reducible repeat first | apply bDn | apply bDr | apply bAl); refine bPu (cs := #[.int .i64 0, .bool false, .string (⟨#[]⟩ : ByteArray), .int .i64 0, .int .i64 0]) ?_ 0 _ rfl; (with_reducible repeat first | apply bDn | apply bDr | apply bAl); exact BK212.out) hb); have n2_ := AsZ.mk (tBl (by repeat (first | (with_reducible first | exact HB.out | apply aBl | apply pBd | apply dBl | refine sBl ?_ GE212.out) | exact HB.out)) hb); clear BK212; clear HB; have HO219 := n0_; have BK212 := n1_; have HB := n2_; clear n0_ n1_ n2_; (try clear hb); (try clear hb2); (try clear hk); (try clear hi); (try clear ho0)) | ((with_reducible refine gDs (N := 2) rfl ?_); refine bEv ?hg (N := 2) ?hd (cs := #[.int .i64 0, .string (⟨#[]⟩ : ByteArray), .int .i64 0, .string (⟨#[]⟩ : ByteArray), .slice none 0 0]) (t := 31) ?hr ?_; (case hd => rfl); (case hg => rfl); (case hr => first | (go_simp; done) | (go_simp; rfl)); intro gb220 hg w37 hbox hb; have n0_ := AsZ.mk (Kd.R_below (by (with_reducible repeat (first | apply Kd.R_alloc | apply Kd.R_drewN | apply Kd.R_drew)); exact HO219.out) hb); have n1_ := AsZ.mk (bBl (g := gb212) (o := .cells #[.int .i64 1, .bool false, .string (⟨#[118, 49, 45, 48]⟩ : ByteArray), .int .i64 0, .int .i64 2] 25 (0, 0)) (by (with_reducible repeat first | apply bDn | apply bDr | apply bAl); exact BK212.out) hb); have n2_ := AsZ.mk (tBl (by repeat (first | (with_reducible first | exact HB.out | apply aBl | apply pBd | apply dBl | refine sBl ?_ GE212.out) | exact HB.out)) hb); have n3_ := AsZ.mk (hbox); have n4_ := AsZ.mk ((by rw [hg]; exact (zBl (by repeat (first | (with_reducible first | exact HB.out | apply aBl | apply pBd | apply dBl | refine sBl ?_ GE212.out) | exact HB.out))) : w.heap.size ≤ gb220)); have n5_ := AsZ.mk ((by rw [hg]; exact (zBl (by repeat (first | (with_reducible first | exact HB.out | apply aBl | apply pBd | apply dBl | refine sBl ?_ GE212.out) | exact HB.out))) : w.heap.size ≤ gb220)); have n6_ := AsZ.mk ((by rw [hg]; exact Nat.ne_of_lt (bLt (g := gb212) (o := .cells #[.int .i64 1, .bool false, .string (⟨#[118, 49, 45, 48]⟩ : ByteArray), .int .i64 0, .int .i64 2] 25 (0, 0)) (by (with_reducible repeat first | apply bDn | apply bDr | apply bAl); exact BK212.out)) : gb212 ≠ gb220)); have n7_ := AsZ.mk ((by rw [hg]; exact Nat.ne_of_gt (bLt (g := gb212) (o := .cells #[.int .i64 1, .bool false, .string (⟨#[118, 49, 45, 48]⟩ : ByteArray), .int .i64 0, .int .i64 2] 25 (0, 0)) (by (with_reducible repeat first | apply bDn | apply bDr | apply bAl); exact BK212.out)) : gb220 ≠ gb212)); clear HO219; clear BK212; clear HB; have HO219 := n0_; have BK212 := n1_; have HB := n2_; have BK220 := n3_; have GW220 := n4_; have GE220 := n5_; have NB212_220 := n6_; have NB220_212 := n7_; clear n0_ n1_ n2_ n3_ n4_ n5_ n6_ n7_; clear hb hbox hg; have hnb38 := NB220_212.out; have hnc38 := NB212_220.out; obtain ⟨hcz39_0, hcz39_1, hcz39_2, hcz39_3, hcz39_4⟩ := celN5 BK220.out; obtain ⟨hfz39_0, hfz39_1, hfz39_2, hfz39_3, hfz39_4⟩ := fzN5 BK220.out; obtain ⟨Ao40, co40, eo40⟩ := Kd.R_slice HO219.out; subst eo40))
    have n0_ : AsZ (Kd.R (Kd.int .u8) 5 (((((w37.setCell ⟨gb220, 0, none⟩ (.int .i64 t213)).setCell ⟨gb220, 1, none⟩ (.string t214)).setCell ⟨gb220, 2, none⟩ (.int .i64 t215)).setCell ⟨gb220, 3, none⟩ (.string t216)).setCell ⟨gb220, 4, none⟩ (.slice Ao40 t217.length co40)) w.heap.size (fun _ => True) (.slice Ao40 t217.length co40) t217) := ⟨by (with_reducible repeat (first | apply Kd.R_alloc | apply Kd.R_drewN | apply Kd.R_drew)); exact Kd.R_mono (Kd.R_far (p := ⟨gb220, 4, none⟩) (Kd.R_far (p := ⟨gb220, 3, none⟩) (Kd.R_far (p := ⟨gb220, 2, none⟩) (Kd.R_far (p := ⟨gb220, 1, none⟩) (Kd.R_far (p := ⟨gb220, 0, none⟩) (Kd.R_types HO219.out BK220.out (by decide)) (fun _ hk => hk.2) (.int .i64 t213)) (fun _ hk => hk.2) (.string t214)) (fun _ hk => hk.2) (.int .i64 t215)) (fun _ hk => hk.2) (.string t216)) (fun _ hk => hk.2) (.slice Ao40 t217.length co40)) (fun _ hk => trivial)⟩
    have n1_ : AsZ ((((((w37.setCell ⟨gb220, 0, none⟩ (.int .i64 t213)).setCell ⟨gb220, 1, none⟩ (.string t214)).setCell ⟨gb220, 2, none⟩ (.int .i64 t215)).setCell ⟨gb220, 3, none⟩ (.string t216)).setCell ⟨gb220, 4, none⟩ (.slice Ao40 t217.length co40)).heap[gb212]? = some (.cells #[.int .i64 1, .bool false, .string (⟨#[118, 49, 45, 48]⟩ : ByteArray), .int .i64 0, .int .i64 2] 25 (0, 0))) := ⟨by (with_reducible repeat first | apply bDn | apply bDr | apply bAl); refine bFr ?_ NB212_220.out _; (with_reducible repeat first | apply bDn | apply bDr | apply bAl); refine bFr ?_ NB212_220.out _; (with_reducible repeat first | apply bDn | apply bDr | apply bAl); refine bFr ?_ NB212_220.out _; (with_reducible repeat first | apply bDn | apply bDr | apply bAl); refine bFr ?_ NB212_220.out _; (with_reducible repeat first | apply bDn | apply bDr | apply bAl); refine bFr ?_ NB212_220.out _; (with_reducible repeat first | apply bDn | apply bDr | apply bAl); exact BK212.out⟩
    have n2_ : AsZ ((((((w37.setCell ⟨gb220, 0, none⟩ (.int .i64 t213)).setCell ⟨gb220, 1, none⟩ (.string t214)).setCell ⟨gb220, 2, none⟩ (.int .i64 t215)).setCell ⟨gb220, 3, none⟩ (.string t216)).setCell ⟨gb220, 4, none⟩ (.slice Ao40 t217.length co40)).heap[gb220]? = some (.cells #[.int .i64 t213, .string t214, .int .i64 t215, .string t216, .slice Ao40 t217.length co40] 31 (0, 0))) := ⟨by (with_reducible repeat first | apply bDn | apply bDr | apply bAl); refine bPu (cs := #[.int .i64 t213, .string t214, .int .i64 t215, .string t216, .slice none 0 0]) ?_ 4 _ rfl; (with_reducible repeat first | apply bDn | apply bDr | apply bAl); refine bPu (cs := #[.int .i64 t213, .string t214, .int .i64 t215, .string (⟨#[]⟩ : ByteArray), .slice none 0 0]) ?_ 3 _ rfl; (with_reducible repeat first | apply bDn | apply bDr | apply bAl); refine bPu (cs := #[.int .i64 t213, .string t214, .int .i64 0, .string (⟨#[]⟩ : ByteArray), .slice none 0 0]) ?_ 2 _ rfl; (with_reducible repeat first | apply bDn | apply bDr | apply bAl); refine bPu (cs := #[.int .i64 t213, .string (⟨#[]⟩ : ByteArray), .int .i64 0, .string (⟨#[]⟩ : ByteArray), .slice none 0 0]) ?_ 1 _ rfl; (with_reducible repeat first | apply bDn | apply bDr | apply bAl); refine bPu (cs := #[.int .i64 0, .string (⟨#[]⟩ : ByteArray), .int .i64 0, .string (⟨#[]⟩ : ByteArray), .slice none 0 0]) ?_ 0 _ rfl; (with_reducible repeat first | apply bDn | apply bDr | apply bAl); exact BK220.out⟩
    have n3_ : AsZ (Below w.heap.size w (((((w37.setCell ⟨gb220, 0, none⟩ (.int .i64 t213)).setCell ⟨gb220, 1, none⟩ (.string t214)).setCell ⟨gb220, 2, none⟩ (.int .i64 t215)).setCell ⟨gb220, 3, none⟩ (.string t216)).setCell ⟨gb220, 4, none⟩ (.slice Ao40 t217.length co40))) := ⟨by repeat (first | (with_reducible first | exact HB.out | apply aBl | apply pBd | apply dBl | refine sBl ?_ GE212.out | refine sBl ?_ GE220.out) | exact HB.out)⟩
    (try clear HO219)
    (try clear BK212)
    (try clear BK220)
    (try clear HB)
    generalize (((((w37.setCell ⟨gb220, 0, none⟩ (.int .i64 t213)).setCell ⟨gb220, 1, none⟩ (.string t214)).setCell ⟨gb220, 2, none⟩ (.int .i64 t215)).setCell ⟨gb220, 3, none⟩ (.string t216)).setCell ⟨gb220, 4, none⟩ (.slice Ao40 t217.length co40)) = w41 at n0_ n1_ n2_ n3_ ⊢
    have HO219 := n0_
    have BK212 := n1_
    have BK220 := n2_
    have HB := n3_
    clear n0_ n1_ n2_ n3_
    have n0_ := AsZ.mk (Kd.R_drew HO219.out)
    have n1_ := AsZ.mk (bDr BK212.out)
    have n2_ := AsZ.mk (bDr BK220.out)
    have n3_ := AsZ.mk (dBl HB.out)
    clear HO219
    clear BK212
    clear BK220
    clear HB
    have HO219 := n0_
    have BK212 := n1_
    have BK220 := n2_
    have HB := n3_
    clear n0_ n1_ n2_ n3_
    refine start_ (n := 16) (S := fun w' => w'.cell? ⟨gb212, 0, none⟩ = some (.int .i64 1) ∧ w'.cell? ⟨gb212, 1, none⟩ = some (.bool false) ∧ w'.cell? ⟨gb212, 2, none⟩ = some (.string (⟨#[118, 49, 45, 48]⟩ : ByteArray)) ∧ w'.cell? ⟨gb212, 3, none⟩ = some (.int .i64 0) ∧ w'.cell? ⟨gb212, 4, none⟩ = some (.int .i64 2) ∧ w'.cell? ⟨gb220, 0, none⟩ = some (.int .i64 t213) ∧ w'.cell? ⟨gb220, 1, none⟩ = some (.string t214) ∧ w'.cell? ⟨gb220, 2, none⟩ = some (.int .i64 t215) ∧ w'.cell? ⟨gb220, 3, none⟩ = some (.string t216) ∧ w'.cell? ⟨gb220, 4, none⟩ = some (.slice Ao40 t217.length co40)) (ds := []) #[false, false, false, false, false, false, false, false, false, false, false, false, false, false, false, false] (by kernel_rfl) rfl rfl ⟨(bCe BK212.out 0).trans rfl, (bCe BK212.out 1).trans rfl, (bCe BK212.out 2).trans rfl, (bCe BK212.out 3).trans rfl, (bCe BK212.out 4).trans rfl, (bCe BK220.out 0).trans rfl, (bCe BK220.out 1).trans rfl, (bCe BK220.out 2).trans rfl, (bCe BK220.out 3).trans rfl, (bCe BK220.out 4).trans rfl⟩ (fun hHeld => ?_); refine with_tabW spencelaw33_awake.tab3 spencelaw33_awake.bits3 (fun HT_ HW_ => ?_)
    generalize w41.drew = w42 at HO219 BK212 BK220 HB hHeld ⊢
    refine take_ (i := 0) (N := some 7) (v := ?_) (a' := ?_) #[true, false, false, false, false, false, false, false, false, false, false, false, false, false, false, false] rfl rfl (take_ofW HT_.out HW_.out (by kernel_rfl)) (fun _ _ _ h => h) (Or.inl ⟨by rfl, ?_⟩) hHeld ?_ ?_
    rotate_left
    · rintro w' ⟨s0, s1, s2, s3, s4, s5, s6, s7, s8, s9⟩
      go_simp
      with_reducible rfl
    rotate_left
    · simp only [Act.put, List.setIfInBounds_toArray, List.set_cons_zero, List.set_cons_succ, i64_w, i32_w]
      rfl
    refine take_ (i := 1) (N := some 8) (v := ?_) (a' := ?_) #[true, true, false, false, false, false, false, false, false, false, false, false, false, false, false, false] rfl rfl (take_ofW HT_.out HW_.out (by kernel_rfl)) (fun _ _ _ h => h) (Or.inl ⟨by rfl, ?_⟩) hHeld ?_ ?_
    rotate_left
    · rintro w' ⟨s0, s1, s2, s3, s4, s5, s6, s7, s8, s9⟩
      go_simp
      with_reducible rfl
    rotate_left
    · simp only [Act.put, List.setIfInBounds_toArray, List.set_cons_zero, List.set_cons_succ, i64_w, i32_w]
      rfl
    refine one_ (i := 2) (N := some 9) #[true, true, true, false, false, false, false, false, false, false, false, false, false, false, false, false] rfl rfl (one_of HT_.out (by kernel_rfl)) (by decide) (fun K hK => ?_)
    refine goes_ Try.func10 (by kernel_rfl) rfl #[.agg #[.int .i64 1, .bool false, .string (⟨#[118, 49, 45, 48]⟩ : ByteArray), .int .i64 0, .int .i64 2], .agg #[.int .i64 t213, .string t214, .int .i64 t215, .string t216, .slice Ao40 t217.length co40]] (by rfl) rfl rfl (by (try simp only [List.map_toArray, List.map_cons, List.map_nil]); first | done | rfl | (simp only [List.length_drop, List.length_take]; rfl)) ?_
    with_reducible refine (check_Part.calls k 1 false (⟨#[118, 49, 45, 48]⟩ : ByteArray) 0 2 t213 t214 t215 t216 _ _ t217 t221 _ ?side1 ?side2 A2.out).mono ?_
    (case side1 => repeat (first | exact (Kd.R_reads' HO219.out).2.2 | (with_reducible refine Kd.C_alloc ?_ _) | (with_reducible refine Kd.C_drewN ?_ _) | (with_reducible refine Kd.C_drew ?_)))
    (case side2 => exact (Kd.R_reads' HO219.out).2.1)
    rintro e w43 ⟨rfl, hb⟩
    refine ⟨_, rfl, ?_⟩
    have n0_ := AsZ.mk (Kd.R_below (by (with_reducible repeat (first | apply Kd.R_alloc | apply Kd.R_drewN | apply Kd.R_drew)); exact HO219.out) hb)
    have n1_ := AsZ.mk (bBl (g := gb212) (o := .cells #[.int .i64 1, .bool false, .string (⟨#[118, 49, 45, 48]⟩ : ByteArray), .int .i64 0, .int .i64 2] 25 (0, 0)) (by (with_reducible repeat first | apply bDn | apply bDr | apply bAl); exact BK212.out) hb)
    have n2_ := AsZ.mk (bBl (g := gb220) (o := .cells #[.int .i64 t213, .string t214, .int .i64 t215, .string t216, .slice Ao40 t217.length co40] 31 (0, 0)) (by (with_reducible repeat first | apply bDn | apply bDr | apply bAl); exact BK220.out) hb)
    have n3_ := AsZ.mk (tBl (by repeat (first | (with_reducible first | exact HB.out | apply aBl | apply pBd | apply dBl | refine sBl ?_ GE212.out | refine sBl ?_ GE220.out) | exact HB.out)) hb)
    clear HO219
    clear BK212
    clear BK220
    clear HB
    have HO219 := n0_
    have BK212 := n1_
    have BK220 := n2_
    have HB := n3_
    clear n0_ n1_ n2_ n3_
    (try clear hb)
    (try clear hb2)
    (try clear hk)
    (try clear hi)
    refine hK.out _ _ ⟨(bCe BK212.out 0).trans rfl, (bCe BK212.out 1).trans rfl, (bCe BK212.out 2).trans rfl, (bCe BK212.out 3).trans rfl, (bCe BK212.out 4).trans rfl, (bCe BK220.out 0).trans rfl, (bCe BK220.out 1).trans rfl, (bCe BK220.out 2).trans rfl, (bCe BK220.out 3).trans rfl, (bCe BK220.out 4).trans rfl⟩ (fun hHeld => ?_)
    clear hK K
    refine norm_ (a' := ?_) ?_ ?_
    rotate_left
    · show Act.put _ (some 9) _ = _
      simp only [Act.put, List.setIfInBounds_toArray, List.set_cons_zero, List.set_cons_succ, i64_w, i32_w]
      rfl
    refine pure_ (i := 3) (N := some 10) (v := ?_) (a' := ?_) #[true, true, true, true, false, false, false, false, false, false, false, false, false, false, false, false] rfl rfl (any_of HT_.out (by kernel_rfl)) (fun _ _ _ h => h) (Or.inl ⟨by rfl, ?_⟩) ?_ ?_
    rotate_left
    · intro w'
      go_simp
      with_reducible rfl
    rotate_left
    · simp only [Act.put, List.setIfInBounds_toArray, List.set_cons_zero, List.set_cons_succ, i64_w, i32_w]
      rfl
    refine pure_ (i := 4) (N := some 11) (v := ?_) (a' := ?_) #[true, true, true, true, true, false, false, false, false, false, false, false, false, false, false, false] rfl rfl (any_of HT_.out (by kernel_rfl)) (fun _ _ _ h => h) (Or.inl ⟨by rfl, ?_⟩) ?_ ?_
    rotate_left
    · intro w'
      go_simp
      with_reducible rfl
    rotate_left
    · simp only [Act.put, List.setIfInBounds_toArray, List.set_cons_zero, List.set_cons_succ, i64_w, i32_w]
      rfl
    refine pure_ (i := 5) (N := some 12) (v := undef) (a' := ?_) #[true, true, true, true, true, true, false, false, false, false, false, false, false, false, false, false] rfl rfl (any_of HT_.out (by kernel_rfl)) (fun _ _ _ h => h) (Or.inr ⟨by rfl, rfl⟩) ?_ ?_
    rotate_left
    · simp only [Act.put, List.setIfInBounds_toArray, List.set_cons_zero, List.set_cons_succ, i64_w, i32_w]
      rfl
    refine pure_ (i := 6) (N := some 13) (v := undef) (a' := ?_) #[true, true, true, true, true, true, true, false, false, false, false, false, false, false, false, false] rfl rfl (any_of HT_.out (by kernel_rfl)) (fun _ _ _ h => h) (Or.inr ⟨by rfl, rfl⟩) ?_ ?_
    rotate_left
    · simp only [Act.put, List.setIfInBounds_toArray, List.set_cons_zero, List.set_cons_succ, i64_w, i32_w]
      rfl
    refine pure_ (i := 7) (N := some 14) (v := undef) (a' := ?_) #[true, true, true, true, true, true, true, true, false, false, false, false, false, false, false, false] rfl rfl (any_of HT_.out (by kernel_rfl)) (fun _ _ _ h => h) (Or.inr ⟨by rfl, rfl⟩) ?_ ?_
    rotate_left
    · simp only [Act.put, List.setIfInBounds_toArray, List.set_cons_zero, List.set_cons_succ, i64_w, i32_w]
      rfl
    refine pure_ (i := 8) (N := some 15) (v := undef) (a' := ?_) #[true, true, true, true, true, true, true, true, true, false, false, false, false, false, false, false] rfl rfl (any_of HT_.out (by kernel_rfl)) (fun _ _ _ h => h) (Or.inr ⟨by rfl, rfl⟩) ?_ ?_
    rotate_left
    · simp only [Act.put, List.setIfInBounds_toArray, List.set_cons_zero, List.set_cons_succ, i64_w, i32_w]
      rfl
    refine pure_ (i := 9) (N := some 16) (v := undef) (a' := ?_) #[true, true, true, true, true, true, true, true, true, true, false, false, false, false, false, false] rfl rfl (any_of HT_.out (by kernel_rfl)) (fun _ _ _ h => h) (Or.inr ⟨by rfl, rfl⟩) ?_ ?_
    rotate_left
    · simp only [Act.put, List.setIfInBounds_toArray, List.set_cons_zero, List.set_cons_succ, i64_w, i32_w]
      rfl
    refine pure_ (i := 10) (N := some 17) (v := ?_) (a' := ?_) #[true, true, true, true, true, true, true, true, true, true, true, false, false, false, false, false] rfl rfl (any_of HT_.out (by kernel_rfl)) (fun _ _ _ h => h) (Or.inl ⟨by rfl, ?_⟩) ?_ ?_
    rotate_left
    · intro w'
      go_simp
      with_reducible rfl
    rotate_left
    · simp only [Act.put, List.setIfInBounds_toArray, List.set_cons_zero, List.set_cons_succ, i64_w, i32_w]
      rfl
    refine pure_ (i := 11) (N := some 18) (v := ?_) (a' := ?_) #[true, true, true, true, true, true, true, true, true, true, true, true, false, false, false, false] rfl rfl (any_of HT_.out (by kernel_rfl)) (fun _ _ _ h => h) (Or.inl ⟨by rfl, ?_⟩) ?_ ?_
    rotate_left
    · intro w'
      go_simp
      with_reducible rfl
    rotate_left
    · simp only [Act.put, List.setIfInBounds_toArray, List.set_cons_zero, List.set_cons_succ, i64_w, i32_w]
      rfl
    refine pure_ (i := 12) (N := some 19) (v := undef) (a' := ?_) #[true, true, true, true, true, true, true, true, true, true, true, true, true, false, false, false] rfl rfl (any_of HT_.out (by kernel_rfl)) (fun _ _ _ h => h) (Or.inr ⟨by rfl, rfl⟩) ?_ ?_
    rotate_left
    · simp only [Act.put, List.setIfInBounds_toArray, List.set_cons_zero, List.set_cons_succ, i64_w, i32_w]
      rfl
    refine pure_ (i := 13) (N := some 20) (v := undef) (a' := ?_) #[true, true, true, true, true, true, true, true, true, true, true, true, true, true, false, false] rfl rfl (any_of HT_.out (by kernel_rfl)) (fun _ _ _ h => h) (Or.inr ⟨by rfl, rfl⟩) ?_ ?_
    rotate_left
    · simp only [Act.put, List.setIfInBounds_toArray, List.set_cons_zero, List.set_cons_succ, i64_w, i32_w]
      rfl
    refine pure_ (i := 14) (N := some 21) (v := ?_) (a' := ?_) #[true, true, true, true, true, true, true, true, true, true, true, true, true, true, true, false] rfl rfl (any_of HT_.out (by kernel_rfl)) (fun _ _ _ h => h) (Or.inl ⟨by rfl, ?_⟩) ?_ ?_
    rotate_left
    · intro w'
      go_simp
      with_reducible rfl
    rotate_left
    · simp only [Act.put, List.setIfInBounds_toArray, List.set_cons_zero, List.set_cons_succ, i64_w, i32_w]
      rfl
    refine pure_ (i := 15) (N := some 0) (v := ?_) (a' := ?_) #[true, true, true, true, true, true, true, true, true, true, true, true, true, true, true, true] rfl rfl (any_of HT_.out (by kernel_rfl)) (fun _ _ _ h => h) (Or.inl ⟨by rfl, ?_⟩) ?_ ?_
    rotate_left
    · intro w'
      go_simp
      with_reducible rfl
    rotate_left
    · simp only [Act.put, List.setIfInBounds_toArray, List.set_cons_zero, List.set_cons_succ, i64_w, i32_w]
      rfl
    refine done_ (done_of HT_.out (by kernel_rfl)) ?_
    try go_wp2
    go_ret
    exact ⟨by first | rfl | exact nEm _ | exact eEm _ | (simp [eWn, eWs] <;> rfl) | (simp [*, eWn, eWs] <;> rfl), by repeat (first | (with_reducible first | exact HB.out | apply aBl | apply pBd | apply dBl | refine sBl ?_ GE212.out | refine sBl ?_ GE220.out) | exact HB.out)⟩
end Go.Proofs.Ytkmkiheoelakaaa.PAll
namespace Go.Proofs.Ytkmkiheoelakaaa.PAll
open Go.RowKit Go.Proofs.Ytkmkiheoelakaaa.Xw Go.Proofs.YtkmkiheoelakaaaW.PrintWords Go.Proofs.YtkmkiheoelakaaaW.PrintLast Go.Proofs.YtkmkiheoelakaaaW.PrintMore
attribute [local go_sem] max2_int min2_int max_two min_two max_three min_three max_four min_four   -- for this text's walks alone
set_option linter.unusedVariables false
set_option linter.unusedSimpArgs false
mutual
def check_Head.j0 : Nat → Bool → Int → ByteArray → Int → ByteArray → List Int → Option (Int)
  | 0, _, _, _, _, _, _ => none
  | k + 1, x5, x233000, x233001, x233002, x233003, x233004 => if x233000 = 404 then (some 4) else (if x233000 = 200 then ((check_Tag.f k x233001).bind fun t234 => (if t234 = true then ((nums_Fits.f x233002 0 4096).bind fun t235 => (check_Head.j1 k x5 (!t235))) else (check_Head.j1 k x5 true))) else (if x233000 = 304 then (if x5 = true then (some 2) else (some 3)) else (some 3)))
def check_Head.j1 : Nat → Bool → Bool → Option (Int)
  | 0, _, _ => none
  | k + 1, x5, x33 => if x33 = true then (some 3) else (if x5 = true then (some 2) else (some 0))
end
def check_Head.f (k : Nat) (a0_0 : Int) (a0_1 : Bool) (a0_2 : ByteArray) (a0_3 : Int) (a0_4 : Int) (a1_0 : Int) (a1_1 : ByteArray) (a1_2 : Int) (a1_3 : ByteArray) (l1_4 : List Int) : Option (Int) := (check_Tag.f k a0_2).bind fun t233 => (if t233 = true then (check_Head.j0 k (a0_2.toList == a1_1.toList) a1_0 a1_1 a1_2 a1_3 l1_4) else (check_Head.j0 k false a1_0 a1_1 a1_2 a1_3 l1_4))
theorem check_Head.mono_l : ∀ k, (∀ y0 y1 y2 y3 y4 y5, LeO (check_Head.j0 k y0 y1 y2 y3 y4 y5) (check_Head.j0 (k + 1) y0 y1 y2 y3 y4 y5)) ∧ (∀ y0 y1, LeO (check_Head.j1 k y0 y1) (check_Head.j1 (k + 1) y0 y1))
  | 0 => ⟨fun _ _ _ _ _ _ r h => by simp [check_Head.j0] at h, fun _ _ r h => by simp [check_Head.j1] at h⟩
  | k + 1 => by
    obtain ⟨ih0, ih1⟩ := check_Head.mono_l k
    refine ⟨?_, ?_⟩
    · intro y0 y1 y2 y3 y4 y5
      unfold check_Head.j0
      repeat' first
      | (with_reducible exact ih0 _ _ _ _ _ _)
      | (with_reducible exact ih1 _ _)
      | (with_reducible exact check_Tag.mono _ _)
      | (with_reducible exact LeO.refl _)
      | (with_reducible exact LeO.none _)
      | (with_reducible refine LeO.ite ?_ ?_)
      | (with_reducible refine LeO.bind ?_ (fun _ => ?_))
      | exact ih0 _ _ _ _ _ _
      | exact ih1 _ _
      | exact check_Tag.mono _ _
      | exact LeO.none _
      | refine LeO.ite ?_ ?_
      | refine LeO.bind ?_ (fun _ => ?_)
    · intro y0 y1
      unfold check_Head.j1
      repeat' first
      | (with_reducible exact ih0 _ _ _ _ _ _)
      | (with_reducible exact ih1 _ _)
      | (with_reducible exact check_Tag.mono _ _)
      | (with_reducible exact LeO.refl _)
      | (with_reducible exact LeO.none _)
      | (with_reducible refine LeO.ite ?_ ?_)
      | (with_reducible refine LeO.bind ?_ (fun _ => ?_))
      | exact ih0 _ _ _ _ _ _
      | exact ih1 _ _
      | exact check_Tag.mono _ _
      | exact LeO.none _
      | refine LeO.ite ?_ ?_
      | refine LeO.bind ?_ (fun _ => ?_)
theorem check_Head.mono : ∀ a0 a1 a2 a3 a4 a5 a6 a7 a8 a9 k, LeO (check_Head.f k a0 a1 a2 a3 a4 a5 a6 a7 a8 a9) (check_Head.f (k + 1) a0 a1 a2 a3 a4 a5 a6 a7 a8 a9) := by
  intro a0 a1 a2 a3 a4 a5 a6 a7 a8 a9 k
  obtain ⟨ih0, ih1⟩ := check_Head.mono_l k
  unfold check_Head.f
  repeat' first
      | (with_reducible exact ih0 _ _ _ _ _ _)
      | (with_reducible exact ih1 _ _)
      | (with_reducible exact check_Tag.mono _ _)
      | (with_reducible exact LeO.refl _)
      | (with_reducible exact LeO.none _)
      | (with_reducible refine LeO.ite ?_ ?_)
      | (with_reducible refine LeO.bind ?_ (fun _ => ?_))
      | exact ih0 _ _ _ _ _ _
      | exact ih1 _ _
      | exact check_Tag.mono _ _
      | exact LeO.none _
      | refine LeO.ite ?_ ?_
      | refine LeO.bind ?_ (fun _ => ?_)
set_option maxHeartbeats 8000000 in
set_option maxRecDepth 100000 in
theorem check_Head.calls (k : Nat) (a0_0 : Int) (a0_1 : Bool) (a0_2 : ByteArray) (a0_3 : Int) (a0_4 : Int) (a1_0 : Int) (a1_1 : ByteArray) (a1_2 : Int) (a1_3 : ByteArray) (A1_4 : Option Addr) (c1_4 : Nat) (l1_4 : List Int) (r : Int) (w : World) (hr1_4 : Kd.C (Kd.int .u8) w A1_4 l1_4.length l1_4) (hc1_4 : l1_4.length ≤ c1_4) (h : check_Head.f k a0_0 a0_1 a0_2 a0_3 a0_4 a1_0 a1_1 a1_2 a1_3 l1_4 = some r) :
    Calls Try.prog 16 #[.agg #[.int .i64 a0_0, .bool a0_1, .string a0_2, .int .i64 a0_3, .int .i64 a0_4], .agg #[.int .i64 a1_0, .string a1_1, .int .i64 a1_2, .string a1_3, .slice A1_4 l1_4.length c1_4]] w fun e w' => e = .returned (.int .i64 r) ∧ Below w.heap.size w w' := by
  have hu25 := Try.underlying25
  have hu31 := Try.underlying31
  have HR1_4 := AsZ.mk hr1_4
  have HC1_4 := AsZ.mk hc1_4
  clear hr1_4 hc1_4
  have HB := AsZ.mk (Below.refl w.heap.size w)
  have H : ((check_Tag.f k a0_2).bind fun t233 => (if t233 = true then (check_Head.j0 k (a0_2.toList == a1_1.toList) a1_0 a1_1 a1_2 a1_3 l1_4) else (check_Head.j0 k false a1_0 a1_1 a1_2 a1_3 l1_4))) = some r := h
  clear h
  have HC3 := AsZ.mk H
  clear H
  go_enter Try.func16, Try.ntmps16
  go_upto_region 1 with (first | ((with_reducible refine gDs (N := 2) rfl ?_); refine bEv ?hg (N := 2) ?hd (cs := #[.int .i64 a0_0, .bool a0_1, .string a0_2, .int .i64 a0_3, .int .i64 a0_4]) (t := 25) ?hr ?_; (case hd => rfl); (case hg => rfl); (case hr => first | (go_simp; done) | (go_simp; rfl)); intro gb231 hg w4 hbox hb; have n0_ := AsZ.mk (tBl (by repeat (first | (with_reducible first | exact HB.out | apply aBl | apply pBd | apply dBl) | exact HB.out)) hb); have n1_ := AsZ.mk (hbox); have n2_ := AsZ.mk ((by rw [hg]; exact (zBl (by repeat (first | (with_reducible first | exact HB.out | apply aBl | apply pBd | apply dBl) | exact HB.out))) : w.heap.size ≤ gb231)); have n3_ := AsZ.mk ((by rw [hg]; exact (zBl (by repeat (first | (with_reducible first | exact HB.out | apply aBl | apply pBd | apply dBl) | exact HB.out))) : w.heap.size ≤ gb231)); clear HB; have HB := n0_; have BK231 := n1_; have GW231 := n2_; have GE231 := n3_; clear n0_ n1_ n2_ n3_; clear hb hbox hg) | ((with_reducible refine gDs (N := 3) rfl ?_); refine bEv ?hg (N := 3) ?hd (cs := #[.int .i64 a1_0, .string a1_1, .int .i64 a1_2, .string a1_3, .slice A1_4 l1_4.length c1_4]) (t := 31) ?hr ?_; (case hd => rfl); (case hg => rfl); (case hr => first | (go_simp; done) | (go_simp; rfl)); intro gb232 hg w5 hbox hb; have n0_ := AsZ.mk (bBl (g := gb231) (o := .cells #[.int .i64 a0_0, .bool a0_1, .string a0_2, .int .i64 a0_3, .int .i64 a0_4] 25 (0, 0)) (by (with_reducible repeat first | apply bDn | apply bDr | apply bAl); exact BK231.out) hb); have n1_ := AsZ.mk (tBl (by repeat (first | (with_reducible first | exact HB.out | apply aBl | apply pBd | apply dBl | refine sBl ?_ GE231.out) | exact HB.out)) hb); have n2_ := AsZ.mk (hbox); have n3_ := AsZ.mk ((by rw [hg]; exact (zBl (by repeat (first | (with_reducible first | exact HB.out | apply aBl | apply pBd | apply dBl | refine sBl ?_ GE231.out) | exact HB.out))) : w.heap.size ≤ gb232)); have n4_ := AsZ.mk ((by rw [hg]; exact (zBl (by repeat (first | (with_reducible first | exact HB.out | apply aBl | apply pBd | apply dBl | refine sBl ?_ GE231.out) | exact HB.out))) : w.heap.size ≤ gb232)); have n5_ := AsZ.mk ((by rw [hg]; exact Nat.ne_of_lt (bLt (g := gb231) (o := .cells #[.int .i64 a0_0, .bool a0_1, .string a0_2, .int .i64 a0_3, .int .i64 a0_4] 25 (0, 0)) (by (with_reducible repeat first | apply bDn | apply bDr | apply bAl); exact BK231.out)) : gb231 ≠ gb232)); have n6_ := AsZ.mk ((by rw [hg]; exact Nat.ne_of_gt (bLt (g := gb231) (o := .cells #[.int .i64 a0_0, .bool a0_1, .string a0_2, .int .i64 a0_3, .int .i64 a0_4] 25 (0, 0)) (by (with_reducible repeat first | apply bDn | apply bDr | apply bAl); exact BK231.out)) : gb232 ≠ gb231)); clear BK231; clear HB; have BK231 := n0_; have HB := n1_; have BK232 := n2_; have GW232 := n3_; have GE232 := n4_; have NB231_232 := n5_; have NB232_231 := n6_; clear n0_ n1_ n2_ n3_ n4_ n5_ n6_; clear hb hbox hg))
  (try simp only [Act.put, List.setIfInBounds_toArray, List.set_cons_zero, List.set_cons_succ])
  go_cut [5] (fun v5 wc => ∃ (kq : Nat) (x5_2 : Bool), v5 = .bool x5_2 ∧ AsZ (check_Head.j0 kq x5_2 a1_0 a1_1 a1_2 a1_3 l1_4 = some r) ∧ AsZ (kq ≤ k) ∧ AsZ (wc.heap[gb231]? = some (.cells #[.int .i64 a0_0, .bool a0_1, .string a0_2, .int .i64 a0_3, .int .i64 a0_4] 25 (0, 0))) ∧ AsZ (wc.heap[gb232]? = some (.cells #[.int .i64 a1_0, .string a1_1, .int .i64 a1_2, .string a1_3, (.slice A1_4 l1_4.length c1_4)] 31 (0, 0))) ∧ AsZ (Below w.heap.size w wc))
  case first =>
    have H := HC3.out
    clear HC3
    replace H := Option.bind_eq_some_iff.mp H
    obtain ⟨t233, A60, H⟩ := H
    replace H : (if t233 = true then (check_Head.j0 k (a0_2.toList == a1_1.toList) a1_0 a1_1 a1_2 a1_3 l1_4) else (check_Head.j0 k false a1_0 a1_1 a1_2 a1_3 l1_4)) = some r := H
    have A6 := AsZ.mk A60
    clear A60
    by_cases c7 : t233 = true
    · subst c7
      have H1 : (check_Head.j0 k (a0_2.toList == a1_1.toList) a1_0 a1_1 a1_2 a1_3 l1_4) = some r := by rw [if_pos rfl] at H; exact H
      clear H
      have H := H1
      clear H1
      have H' := AsZ.mk H
      clear H
      have hnb8 := NB231_232.out
      have hnc8 := NB232_231.out
      obtain ⟨hcz9_0, hcz9_1, hcz9_2, hcz9_3, hcz9_4⟩ := celN5 BK231.out
      obtain ⟨hfz9_0, hfz9_1, hfz9_2, hfz9_3, hfz9_4⟩ := fzN5 BK231.out
      go_wp2_with (first | ((with_reducible refine gCa (f := 18) rfl ?_); refine gLl (some 8) rfl rfl Try.func18 (by kernel_rfl) rfl #[.string a0_2] rfl (by (try simp only [List.map_toArray, List.map_cons, List.map_nil]); first | done | rfl | (simp only [List.length_drop, List.length_take]; rfl)) ?_; (with_reducible refine (check_Tag.calls k a0_2 true _ A6.out).mono ?_); rintro e w10 ⟨rfl, hb⟩; refine ⟨_, rfl, ?_⟩; have n0_ := AsZ.mk (bBl (g := gb231) (o := .cells #[.int .i64 a0_0, .bool a0_1, .string a0_2, .int .i64 a0_3, .int .i64 a0_4] 25 (0, 0)) (by (with_reducible repeat first | apply bDn | apply bDr | apply bAl); exact BK231.out) hb); have n1_ := AsZ.mk (bBl (g := gb232) (o := .cells #[.int .i64 a1_0, .string a1_1, .int .i64 a1_2, .string a1_3, .slice A1_4 l1_4.length c1_4] 31 (0, 0)) (by (with_reducible repeat first | apply bDn | apply bDr | apply bAl); exact BK232.out) hb); have n2_ := AsZ.mk (tBl (by repeat (first | (with_reducible first | exact HB.out | apply aBl | apply pBd | apply dBl | refine sBl ?_ GE231.out | refine sBl ?_ GE232.out) | exact HB.out)) hb); clear BK231; clear BK232; clear HB; have BK231 := n0_; have BK232 := n1_; have HB := n2_; clear n0_ n1_ n2_; (try clear hb); (try clear hb2); (try clear hk); (try clear hi); obtain ⟨hcz11_0, hcz11_1, hcz11_2, hcz11_3, hcz11_4⟩ := celN5 BK231.out; obtain ⟨hfz11_0, hfz11_1, hfz11_2, hfz11_3, hfz11_4⟩ := fzN5 BK231.out; obtain ⟨hcz12_0, hcz12_1, hcz12_2, hcz12_3, hcz12_4⟩ := celN5 BK232.out; obtain ⟨hfz12_0, hfz12_1, hfz12_2, hfz12_3, hfz12_4⟩ := fzN5 BK232.out))
      go_meet
      case rel => exact ⟨_, ((a0_2.toList == a1_1.toList)), (by first | rfl | (simp; done) | (simp [*]; done)), H', ⟨by first | omega | exact Nat.le_refl _⟩, ⟨by (with_reducible repeat first | apply bDn | apply bDr | apply bAl); exact BK231.out⟩, ⟨by (with_reducible repeat first | apply bDn | apply bDr | apply bAl); exact BK232.out⟩, ⟨by repeat (first | (with_reducible first | exact HB.out | apply aBl | apply pBd | apply dBl | refine sBl ?_ GE231.out | refine sBl ?_ GE232.out) | exact HB.out)⟩⟩
    · replace c7 := Bool.eq_false_iff.mpr c7
      subst c7
      have H1 : (check_Head.j0 k false a1_0 a1_1 a1_2 a1_3 l1_4) = some r := by rw [if_neg (show ¬ (false = true) by decide)] at H; exact H
      clear H
      have H := H1
      clear H1
      have H' := AsZ.mk H
      clear H
      have hnb13 := NB231_232.out
      have hnc13 := NB232_231.out
      obtain ⟨hcz14_0, hcz14_1, hcz14_2, hcz14_3, hcz14_4⟩ := celN5 BK231.out
      obtain ⟨hfz14_0, hfz14_1, hfz14_2, hfz14_3, hfz14_4⟩ := fzN5 BK231.out
      go_wp2_with (first | ((with_reducible refine gCa (f := 18) rfl ?_); refine gLl (some 8) rfl rfl Try.func18 (by kernel_rfl) rfl #[.string a0_2] rfl (by (try simp only [List.map_toArray, List.map_cons, List.map_nil]); first | done | rfl | (simp only [List.length_drop, List.length_take]; rfl)) ?_; (with_reducible refine (check_Tag.calls k a0_2 false _ A6.out).mono ?_); rintro e w15 ⟨rfl, hb⟩; refine ⟨_, rfl, ?_⟩; have n0_ := AsZ.mk (bBl (g := gb231) (o := .cells #[.int .i64 a0_0, .bool a0_1, .string a0_2, .int .i64 a0_3, .int .i64 a0_4] 25 (0, 0)) (by (with_reducible repeat first | apply bDn | apply bDr | apply bAl); exact BK231.out) hb); have n1_ := AsZ.mk (bBl (g := gb232) (o := .cells #[.int .i64 a1_0, .string a1_1, .int .i64 a1_2, .string a1_3, .slice A1_4 l1_4.length c1_4] 31 (0, 0)) (by (with_reducible repeat first | apply bDn | apply bDr | apply bAl); exact BK232.out) hb); have n2_ := AsZ.mk (tBl (by repeat (first | (with_reducible first | exact HB.out | apply aBl | apply pBd | apply dBl | refine sBl ?_ GE231.out | refine sBl ?_ GE232.out) | exact HB.out)) hb); clear BK231; clear BK232; clear HB; have BK231 := n0_; have BK232 := n1_; have HB := n2_; clear n0_ n1_ n2_; (try clear hb); (try clear hb2); (try clear hk); (try clear hi)))
      go_meet
      case rel => exact ⟨_, (false), (by first | rfl | (simp; done) | (simp [*]; done)), H', ⟨by first | omega | exact Nat.le_refl _⟩, ⟨by (with_reducible repeat first | apply bDn | apply bDr | apply bAl); exact BK231.out⟩, ⟨by (with_reducible repeat first | apply bDn | apply bDr | apply bAl); exact BK232.out⟩, ⟨by repeat (first | (with_reducible first | exact HB.out | apply aBl | apply pBd | apply dBl | refine sBl ?_ GE231.out | refine sBl ?_ GE232.out) | exact HB.out)⟩⟩
  case rest =>
    clear HC3
    try clear c1
    try clear p2
    try clear c7
    try clear c8
    try clear c13
    try clear hcz11_0
    try clear hcz11_1
    try clear hcz11_2
    try clear hcz11_3
    try clear hcz11_4
    try clear hcz12_0
    try clear hcz12_1
    try clear hcz12_2
    try clear hcz12_3
    try clear hcz12_4
    try clear hcz14_0
    try clear hcz14_1
    try clear hcz14_2
    try clear hcz14_3
    try clear hcz14_4
    try clear hcz9_0
    try clear hcz9_1
    try clear hcz9_2
    try clear hcz9_3
    try clear hcz9_4
    try clear hfz11_0
    try clear hfz11_1
    try clear hfz11_2
    try clear hfz11_3
    try clear hfz11_4
    try clear hfz12_0
    try clear hfz12_1
    try clear hfz12_2
    try clear hfz12_3
    try clear hfz12_4
    try clear hfz14_0
    try clear hfz14_1
    try clear hfz14_2
    try clear hfz14_3
    try clear hfz14_4
    try clear hfz9_0
    try clear hfz9_1
    try clear hfz9_2
    try clear hfz9_3
    try clear hfz9_4
    obtain ⟨kq, x5_2, rfl, HA, HJ2, BK231, BK232, HB⟩ := hcut
    cases kq with
    | zero => exact absurd HA.out (by simp [check_Head.j0])
    | succ kj2 =>
      have H := HA.out
      clear HA
      simp only [check_Head.j0] at H
      by_cases c16 : a1_0 = 404
      · rw [if_pos c16] at H
        have c16b0 : (a1_0 == 404) = true := beq_iff_eq.mpr c16
        have c16b1 : (a1_0 != 404) = false := bne_eq_false_iff_eq.mpr c16
        clear c16
        obtain rfl := Option.some.inj H
        have hnb17 := NB232_231.out
        have hnc17 := NB231_232.out
        obtain ⟨hcz18_0, hcz18_1, hcz18_2, hcz18_3, hcz18_4⟩ := celN5 BK232.out
        obtain ⟨hfz18_0, hfz18_1, hfz18_2, hfz18_3, hfz18_4⟩ := fzN5 BK232.out
        go_wp2
        go_ret
        exact ⟨by first | rfl | exact nEm _ | exact eEm _ | (simp [eWn, eWs] <;> rfl) | (simp [*, eWn, eWs] <;> rfl), by repeat (first | (with_reducible first | exact HB.out | apply aBl | apply pBd | apply dBl | refine sBl ?_ GE231.out | refine sBl ?_ GE232.out) | exact HB.out)⟩
      · rw [if_neg c16] at H
        have c16b0 : (a1_0 == 404) = false := beq_eq_false_iff_ne.mpr c16
        have c16b1 : (a1_0 != 404) = true := bne_iff_ne.mpr c16
        by_cases c19 : a1_0 = 200
        · rw [if_pos c19] at H
          have c19b0 : (a1_0 == 200) = true := beq_iff_eq.mpr c19
          have c19b1 : (a1_0 != 200) = false := bne_eq_false_iff_eq.mpr c19
          clear c19
          have HC20 := AsZ.mk H
          clear H
          have hnb21 := NB232_231.out
          have hnc21 := NB231_232.out
          obtain ⟨hcz22_0, hcz22_1, hcz22_2, hcz22_3, hcz22_4⟩ := celN5 BK232.out
          obtain ⟨hfz22_0, hfz22_1, hfz22_2, hfz22_3, hfz22_4⟩ := fzN5 BK232.out
          go_upto_region 7 with (fail)
          go_cut [33] (fun v33 wc => ∃ (kq : Nat) (x33_19 : Bool), v33 = .bool x33_19 ∧ AsZ (check_Head.j1 kq x5_2 x33_19 = some r) ∧ AsZ (kq ≤ kj2) ∧ AsZ (wc.heap[gb231]? = some (.cells #[.int .i64 a0_0, .bool a0_1, .string a0_2, .int .i64 a0_3, .int .i64 a0_4] 25 (0, 0))) ∧ AsZ (wc.heap[gb232]? = some (.cells #[.int .i64 a1_0, .string a1_1, .int .i64 a1_2, .string a1_3, (.slice A1_4 l1_4.length c1_4)] 31 (0, 0))) ∧ AsZ (Below w.heap.size w wc))
          case first =>
            have H := HC20.out
            clear HC20
            replace H := Option.bind_eq_some_iff.mp H
            obtain ⟨t234, A230, H⟩ := H
            replace H : (if t234 = true then ((nums_Fits.f a1_2 0 4096).bind fun t235 => (check_Head.j1 kj2 x5_2 (!t235))) else (check_Head.j1 kj2 x5_2 true)) = some r := H
            have A23 := AsZ.mk A230
            clear A230
            by_cases c24 : t234 = true
            · subst c24
              have H1 : ((nums_Fits.f a1_2 0 4096).bind fun t235 => (check_Head.j1 kj2 x5_2 (!t235))) = some r := by rw [if_pos rfl] at H; exact H
              clear H
              have H := H1
              clear H1
              replace H := Option.bind_eq_some_iff.mp H
              obtain ⟨t235, A250, H⟩ := H
              replace H : (check_Head.j1 kj2 x5_2 (!t235)) = some r := H
              have A25 := AsZ.mk A250
              clear A250
              have H' := AsZ.mk H
              clear H
              have hnb26 := NB232_231.out
              have hnc26 := NB231_232.out
              obtain ⟨hcz27_0, hcz27_1, hcz27_2, hcz27_3, hcz27_4⟩ := celN5 BK232.out
              obtain ⟨hfz27_0, hfz27_1, hfz27_2, hfz27_3, hfz27_4⟩ := fzN5 BK232.out
              go_wp2_with (first | ((with_reducible refine gCa (f := 18) rfl ?_); refine gLl (some 26) rfl rfl Try.func18 (by kernel_rfl) rfl #[.string a1_1] rfl (by (try simp only [List.map_toArray, List.map_cons, List.map_nil]); first | done | rfl | (simp only [List.length_drop, List.length_take]; rfl)) ?_; (with_reducible refine (check_Tag.calls kj2 a1_1 true _ A23.out).mono ?_); rintro e w28 ⟨rfl, hb⟩; refine ⟨_, rfl, ?_⟩; have n0_ := AsZ.mk (bBl (g := gb231) (o := .cells #[.int .i64 a0_0, .bool a0_1, .string a0_2, .int .i64 a0_3, .int .i64 a0_4] 25 (0, 0)) (by (with_reducible repeat first | apply bDn | apply bDr | apply bAl); exact BK231.out) hb); have n1_ := AsZ.mk (bBl (g := gb232) (o := .cells #[.int .i64 a1_0, .string a1_1, .int .i64 a1_2, .string a1_3, .slice A1_4 l1_4.length c1_4] 31 (0, 0)) (by (with_reducible repeat first | apply bDn | apply bDr | apply bAl); exact BK232.out) hb); have n2_ := AsZ.mk (tBl (by repeat (first | (with_reducible first | exact HB.out | apply aBl | apply pBd | apply dBl | refine sBl ?_ GE231.out | refine sBl ?_ GE232.out) | exact HB.out)) hb); clear BK231; clear BK232; clear HB; have BK231 := n0_; have BK232 := n1_; have HB := n2_; clear n0_ n1_ n2_; (try clear hb); (try clear hb2); (try clear hk); (try clear hi); obtain ⟨hcz29_0, hcz29_1, hcz29_2, hcz29_3, hcz29_4⟩ := celN5 BK232.out; obtain ⟨hfz29_0, hfz29_1, hfz29_2, hfz29_3, hfz29_4⟩ := fzN5 BK232.out) | (go_at_call 23; (with_reducible refine (nums_Fits.calls a1_2 0 4096 t235 _ A25.out).mono ?_); rintro e w' ⟨rfl, ⟨nd, rfl⟩⟩))
              go_meet
              case rel => exact ⟨_, (!t235), (by first | rfl | (simp; done) | (simp [*]; done)), H', ⟨by have := HJ2.out; first | omega | exact Nat.le_refl _⟩, ⟨by (with_reducible repeat first | apply bDn | apply bDr | apply bAl); exact BK231.out⟩, ⟨by (with_reducible repeat first | apply bDn | apply bDr | apply bAl); exact BK232.out⟩, ⟨by repeat (first | (with_reducible first | exact HB.out | apply aBl | apply pBd | apply dBl | refine sBl ?_ GE231.out | refine sBl ?_ GE232.out) | exact HB.out)⟩⟩
            · replace c24 := Bool.eq_false_iff.mpr c24
              subst c24
              have H1 : (check_Head.j1 kj2 x5_2 true) = some r := by rw [if_neg (show ¬ (false = true) by decide)] at H; exact H
              clear H
              have H := H1
              clear H1
              have H' := AsZ.mk H
              clear H
              have hnb30 := NB232_231.out
              have hnc30 := NB231_232.out
              obtain ⟨hcz31_0, hcz31_1, hcz31_2, hcz31_3, hcz31_4⟩ := celN5 BK232.out
              obtain ⟨hfz31_0, hfz31_1, hfz31_2, hfz31_3, hfz31_4⟩ := fzN5 BK232.out
              go_wp2_with (first | ((with_reducible refine gCa (f := 18) rfl ?_); refine gLl (some 26) rfl rfl Try.func18 (by kernel_rfl) rfl #[.string a1_1] rfl (by (try simp only [List.map_toArray, List.map_cons, List.map_nil]); first | done | rfl | (simp only [List.length_drop, List.length_take]; rfl)) ?_; (with_reducible refine (check_Tag.calls kj2 a1_1 false _ A23.out).mono ?_); rintro e w32 ⟨rfl, hb⟩; refine ⟨_, rfl, ?_⟩; have n0_ := AsZ.mk (bBl (g := gb231) (o := .cells #[.int .i64 a0_0, .bool a0_1, .string a0_2, .int .i64 a0_3, .int .i64 a0_4] 25 (0, 0)) (by (with_reducible repeat first | apply bDn | apply bDr | apply bAl); exact BK231.out) hb); have n1_ := AsZ.mk (bBl (g := gb232) (o := .cells #[.int .i64 a1_0, .string a1_1, .int .i64 a1_2, .string a1_3, .slice A1_4 l1_4.length c1_4] 31 (0, 0)) (by (with_reducible repeat first | apply bDn | apply bDr | apply bAl); exact BK232.out) hb); have n2_ := AsZ.mk (tBl (by repeat (first | (with_reducible first | exact HB.out | apply aBl | apply pBd | apply dBl | refine sBl ?_ GE231.out | refine sBl ?_ GE232.out) | exact HB.out)) hb); clear BK231; clear BK232; clear HB; have BK231 := n0_; have BK232 := n1_; have HB := n2_; clear n0_ n1_ n2_; (try clear hb); (try clear hb2); (try clear hk); (try clear hi)))
              go_meet
              case rel => exact ⟨_, (true), (by first | rfl | (simp; done) | (simp [*]; done)), H', ⟨by have := HJ2.out; first | omega | exact Nat.le_refl _⟩, ⟨by (with_reducible repeat first | apply bDn | apply bDr | apply bAl); exact BK231.out⟩, ⟨by (with_reducible repeat first | apply bDn | apply bDr | apply bAl); exact BK232.out⟩, ⟨by repeat (first | (with_reducible first | exact HB.out | apply aBl | apply pBd | apply dBl | refine sBl ?_ GE231.out | refine sBl ?_ GE232.out) | exact HB.out)⟩⟩
          case rest =>
            clear HC20
            try clear c1
            try clear c2
            try clear p2
            try clear c3
            try clear c7
            try clear c8
            try clear c13
            try clear c16
            try clear c16b0
            try clear c16b1
            try clear c17
            try clear c18
            try clear c19
            try clear c19b0
            try clear c19b1
            try clear c21
            try clear c24
            try clear c26
            try clear c30
            try clear hcz11_0
            try clear hcz11_1
            try clear hcz11_2
            try clear hcz11_3
            try clear hcz11_4
            try clear hcz12_0
            try clear hcz12_1
            try clear hcz12_2
            try clear hcz12_3
            try clear hcz12_4
            try clear hcz14_0
            try clear hcz14_1
            try clear hcz14_2
            try clear hcz14_3
            try clear hcz14_4
            try clear hcz18_0
            try clear hcz18_1
            try clear hcz18_2
            try clear hcz18_3
            try clear hcz18_4
            try clear hcz22_0
            try clear hcz22_1
            try clear hcz22_2
            try clear hcz22_3
            try clear hcz22_4
            try clear hcz27_0
            try clear hcz27_1
            try clear hcz27_2
            try clear hcz27_3
            try clear hcz27_4
            try clear hcz29_0
            try clear hcz29_1
            try clear hcz29_2
            try clear hcz29_3
            try clear hcz29_4
            try clear hcz31_0
            try clear hcz31_1
            try clear hcz31_2
            try clear hcz31_3
            try clear hcz31_4
            try clear hcz9_0
            try clear hcz9_1
            try clear hcz9_2
            try clear hcz9_3
            try clear hcz9_4
            try clear hfz11_0
            try clear hfz11_1
            try clear hfz11_2
            try clear hfz11_3
            try clear hfz11_4
            try clear hfz12_0
            try clear hfz12_1
            try clear hfz12_2
            try clear hfz12_3
            try clear hfz12_4
            try clear hfz14_0
            try clear hfz14_1
            try clear hfz14_2
            try clear hfz14_3
            try clear hfz14_4
            try clear hfz18_0
            try clear hfz18_1
            try clear hfz18_2
            try clear hfz18_3
            try clear hfz18_4
            try clear hfz22_0
            try clear hfz22_1
            try clear hfz22_2
            try clear hfz22_3
            try clear hfz22_4
            try clear hfz27_0
            try clear hfz27_1
            try clear hfz27_2
            try clear hfz27_3
            try clear hfz27_4
            try clear hfz29_0
            try clear hfz29_1
            try clear hfz29_2
            try clear hfz29_3
            try clear hfz29_4
            try clear hfz31_0
            try clear hfz31_1
            try clear hfz31_2
            try clear hfz31_3
            try clear hfz31_4
            try clear hfz9_0
            try clear hfz9_1
            try clear hfz9_2
            try clear hfz9_3
            try clear hfz9_4
            try clear p2
            obtain ⟨kq, x33_19, rfl, HA, HJ19, BK231, BK232, HB⟩ := hcut
            cases kq with
            | zero => exact absurd HA.out (by simp [check_Head.j1])
            | succ kj19 =>
              have H := HA.out
              clear HA
              simp only [check_Head.j1] at H
              by_cases c33 : x33_19 = true
              · subst c33
                have H1 : (some 3) = some r := by rw [if_pos rfl] at H; exact H
                clear H
                have H := H1
                clear H1
                obtain rfl := Option.some.inj H
                go_wp2
                go_ret
                exact ⟨by first | rfl | exact nEm _ | exact eEm _ | (simp [eWn, eWs] <;> rfl) | (simp [*, eWn, eWs] <;> rfl), by repeat (first | (with_reducible first | exact HB.out | apply aBl | apply pBd | apply dBl | refine sBl ?_ GE231.out | refine sBl ?_ GE232.out) | exact HB.out)⟩
              · replace c33 := Bool.eq_false_iff.mpr c33
                subst c33
                have H1 : (if x5_2 = true then (some 2) else (some 0)) = some r := by rw [if_neg (show ¬ (false = true) by decide)] at H; exact H
                clear H
                have H := H1
                clear H1
                by_cases c34 : x5_2 = true
                · subst c34
                  have H1 : (some 2) = some r := by rw [if_pos rfl] at H; exact H
                  clear H
                  have H := H1
                  clear H1
                  obtain rfl := Option.some.inj H
                  go_wp2
                  go_ret
                  exact ⟨by first | rfl | exact nEm _ | exact eEm _ | (simp [eWn, eWs] <;> rfl) | (simp [*, eWn, eWs] <;> rfl), by repeat (first | (with_reducible first | exact HB.out | apply aBl | apply pBd | apply dBl | refine sBl ?_ GE231.out | refine sBl ?_ GE232.out) | exact HB.out)⟩
                · replace c34 := Bool.eq_false_iff.mpr c34
                  subst c34
                  have H1 : (some 0) = some r := by rw [if_neg (show ¬ (false = true) by decide)] at H; exact H
                  clear H
                  have H := H1
                  clear H1
                  obtain rfl := Option.some.inj H
                  go_wp2
                  go_ret
                  exact ⟨by first | rfl | exact nEm _ | exact eEm _ | (simp [eWn, eWs] <;> rfl) | (simp [*, eWn, eWs] <;> rfl), by repeat (first | (with_reducible first | exact HB.out | apply aBl | apply pBd | apply dBl | refine sBl ?_ GE231.out | refine sBl ?_ GE232.out) | exact HB.out)⟩
        · rw [if_neg c19] at H
          have c19b0 : (a1_0 == 200) = false := beq_eq_false_iff_ne.mpr c19
          have c19b1 : (a1_0 != 200) = true := bne_iff_ne.mpr c19
          by_cases c35 : a1_0 = 304
          · rw [if_pos c35] at H
            have c35b0 : (a1_0 == 304) = true := beq_iff_eq.mpr c35
            have c35b1 : (a1_0 != 304) = false := bne_eq_false_iff_eq.mpr c35
            clear c35
            by_cases c36 : x5_2 = true
            · subst c36
              have H1 : (some 2) = some r := by rw [if_pos rfl] at H; exact H
              clear H
              have H := H1
              clear H1
              obtain rfl := Option.some.inj H
              have hnb37 := NB232_231.out
              have hnc37 := NB231_232.out
              obtain ⟨hcz38_0, hcz38_1, hcz38_2, hcz38_3, hcz38_4⟩ := celN5 BK232.out
              obtain ⟨hfz38_0, hfz38_1, hfz38_2, hfz38_3, hfz38_4⟩ := fzN5 BK232.out
              go_wp2
              go_ret
              exact ⟨by first | rfl | exact nEm _ | exact eEm _ | (simp [eWn, eWs] <;> rfl) | (simp [*, eWn, eWs] <;> rfl), by repeat (first | (with_reducible first | exact HB.out | apply aBl | apply pBd | apply dBl | refine sBl ?_ GE231.out | refine sBl ?_ GE232.out) | exact HB.out)⟩
            · replace c36 := Bool.eq_false_iff.mpr c36
              subst c36
              have H1 : (some 3) = some r := by rw [if_neg (show ¬ (false = true) by decide)] at H; exact H
              clear H
              have H := H1
              clear H1
              obtain rfl := Option.some.inj H
              have hnb39 := NB232_231.out
              have hnc39 := NB231_232.out
              obtain ⟨hcz40_0, hcz40_1, hcz40_2, hcz40_3, hcz40_4⟩ := celN5 BK232.out
              obtain ⟨hfz40_0, hfz40_1, hfz40_2, hfz40_3, hfz40_4⟩ := fzN5 BK232.out
              go_wp2
              go_ret
              exact ⟨by first | rfl | exact nEm _ | exact eEm _ | (simp [eWn, eWs] <;> rfl) | (simp [*, eWn, eWs] <;> rfl), by repeat (first | (with_reducible first | exact HB.out | apply aBl | apply pBd | apply dBl | refine sBl ?_ GE231.out | refine sBl ?_ GE232.out) | exact HB.out)⟩
          · rw [if_neg c35] at H
            have c35b0 : (a1_0 == 304) = false := beq_eq_false_iff_ne.mpr c35
            have c35b1 : (a1_0 != 304) = true := bne_iff_ne.mpr c35
            obtain rfl := Option.some.inj H
            have hnb41 := NB232_231.out
            have hnc41 := NB231_232.out
            obtain ⟨hcz42_0, hcz42_1, hcz42_2, hcz42_3, hcz42_4⟩ := celN5 BK232.out
            obtain ⟨hfz42_0, hfz42_1, hfz42_2, hfz42_3, hfz42_4⟩ := fzN5 BK232.out
            go_wp2
            go_ret
            exact ⟨by first | rfl | exact nEm _ | exact eEm _ | (simp [eWn, eWs] <;> rfl) | (simp [*, eWn, eWs] <;> rfl), by repeat (first | (with_reducible first | exact HB.out | apply aBl | apply pBd | apply dBl | refine sBl ?_ GE231.out | refine sBl ?_ GE232.out) | exact HB.out)⟩
def check_Of.f (k : Nat) (a0_0 : Int) (a0_1 : Bool) (a0_2 : ByteArray) (a0_3 : Int) (a0_4 : Int) (a1_0 : Int) (a1_1 : ByteArray) (a1_2 : Int) (a1_3 : ByteArray) (l1_4 : List Int) : Option (Int) := if a0_1 = true then ((check_Head.f k a0_0 a0_1 a0_2 a0_3 a0_4 a1_0 a1_1 a1_2 a1_3 l1_4).bind fun t238 => (some t238)) else ((check_Part.f k a0_0 a0_1 a0_2 a0_3 a0_4 a1_0 a1_1 a1_2 a1_3 l1_4).bind fun t239 => (some t239))
theorem check_Of.mono : ∀ a0 a1 a2 a3 a4 a5 a6 a7 a8 a9 k, LeO (check_Of.f k a0 a1 a2 a3 a4 a5 a6 a7 a8 a9) (check_Of.f (k + 1) a0 a1 a2 a3 a4 a5 a6 a7 a8 a9) := by
  intro a0 a1 a2 a3 a4 a5 a6 a7 a8 a9 k
  unfold check_Of.f
  repeat' first
      | (with_reducible exact check_Head.mono _ _ _ _ _ _ _ _ _ _ _)
      | (with_reducible exact check_Part.mono _ _ _ _ _ _ _ _ _ _ _)
      | (with_reducible exact LeO.refl _)
      | (with_reducible exact LeO.none _)
      | (with_reducible refine LeO.ite ?_ ?_)
      | (with_reducible refine LeO.bind ?_ (fun _ => ?_))
      | exact check_Head.mono _ _ _ _ _ _ _ _ _ _ _
      | exact check_Part.mono _ _ _ _ _ _ _ _ _ _ _
      | exact LeO.none _
      | refine LeO.ite ?_ ?_
      | refine LeO.bind ?_ (fun _ => ?_)
set_option maxHeartbeats 8000000 in
set_option maxRecDepth 100000 in
theorem check_Of.calls (k : Nat) (a0_0 : Int) (a0_1 : Bool) (a0_2 : ByteArray) (a0_3 : Int) (a0_4 : Int) (a1_0 : Int) (a1_1 : ByteArray) (a1_2 : Int) (a1_3 : ByteArray) (A1_4 : Option Addr) (c1_4 : Nat) (l1_4 : List Int) (r : Int) (w : World) (hr1_4 : Kd.C (Kd.int .u8) w A1_4 l1_4.length l1_4) (hc1_4 : l1_4.length ≤ c1_4) (h : check_Of.f k a0_0 a0_1 a0_2 a0_3 a0_4 a1_0 a1_1 a1_2 a1_3 l1_4 = some r) :
    Calls Try.prog 8 #[.agg #[.int .i64 a0_0, .bool a0_1, .string a0_2, .int .i64 a0_3, .int .i64 a0_4], .agg #[.int .i64 a1_0, .string a1_1, .int .i64 a1_2, .string a1_3, .slice A1_4 l1_4.length c1_4]] w fun e w' => e = .returned (.int .i64 r) ∧ Below w.heap.size w w' := by
  have hu25 := Try.underlying25
  have hu31 := Try.underlying31
  have HR1_4 := AsZ.mk hr1_4
  have HC1_4 := AsZ.mk hc1_4
  clear hr1_4 hc1_4
  have HB := AsZ.mk (Below.refl w.heap.size w)
  have H : (if a0_1 = true then ((check_Head.f k a0_0 a0_1 a0_2 a0_3 a0_4 a1_0 a1_1 a1_2 a1_3 l1_4).bind fun t238 => (some t238)) else ((check_Part.f k a0_0 a0_1 a0_2 a0_3 a0_4 a1_0 a1_1 a1_2 a1_3 l1_4).bind fun t239 => (some t239))) = some r := h
  clear h
  by_cases c3 : a0_1 = true
  · subst c3
    have H1 : ((check_Head.f k a0_0 true a0_2 a0_3 a0_4 a1_0 a1_1 a1_2 a1_3 l1_4).bind fun t238 => (some t238)) = some r := by rw [if_pos rfl] at H; exact H
    clear H
    have H := H1
    clear H1
    replace H := Option.bind_eq_some_iff.mp H
    obtain ⟨t238, A40, H⟩ := H
    replace H : (some t238) = some r := H
    have A4 := AsZ.mk A40
    clear A40
    obtain rfl := Option.some.inj H
    go_enter Try.func8, Try.ntmps8
    go_wp2_with (first | ((with_reducible refine gDs (N := 2) rfl ?_); refine bEv ?hg (N := 2) ?hd (cs := #[.int .i64 a0_0, .bool true, .string a0_2, .int .i64 a0_3, .int .i64 a0_4]) (t := 25) ?hr ?_; (case hd => rfl); (case hg => rfl); (case hr => first | (go_simp; done) | (go_simp; rfl)); intro gb236 hg w5 hbox hb; have n0_ := AsZ.mk (tBl (by repeat (first | (with_reducible first | exact HB.out | apply aBl | apply pBd | apply dBl) | exact HB.out)) hb); have n1_ := AsZ.mk (hbox); have n2_ := AsZ.mk ((by rw [hg]; exact (zBl (by repeat (first | (with_reducible first | exact HB.out | apply aBl | apply pBd | apply dBl) | exact HB.out))) : w.heap.size ≤ gb236)); have n3_ := AsZ.mk ((by rw [hg]; exact (zBl (by repeat (first | (with_reducible first | exact HB.out | apply aBl | apply pBd | apply dBl) | exact HB.out))) : w.heap.size ≤ gb236)); clear HB; have HB := n0_; have BK236 := n1_; have GW236 := n2_; have GE236 := n3_; clear n0_ n1_ n2_ n3_; clear hb hbox hg) | ((with_reducible refine gDs (N := 3) rfl ?_); refine bEv ?hg (N := 3) ?hd (cs := #[.int .i64 a1_0, .string a1_1, .int .i64 a1_2, .string a1_3, .slice A1_4 l1_4.length c1_4]) (t := 31) ?hr ?_; (case hd => rfl); (case hg => rfl); (case hr => first | (go_simp; done) | (go_simp; rfl)); intro gb237 hg w6 hbox hb; have n0_ := AsZ.mk (bBl (g := gb236) (o := .cells #[.int .i64 a0_0, .bool true, .string a0_2, .int .i64 a0_3, .int .i64 a0_4] 25 (0, 0)) (by (with_reducible repeat first | apply bDn | apply bDr | apply bAl); exact BK236.out) hb); have n1_ := AsZ.mk (tBl (by repeat (first | (with_reducible first | exact HB.out | apply aBl | apply pBd | apply dBl | refine sBl ?_ GE236.out) | exact HB.out)) hb); have n2_ := AsZ.mk (hbox); have n3_ := AsZ.mk ((by rw [hg]; exact (zBl (by repeat (first | (with_reducible first | exact HB.out | apply aBl | apply pBd | apply dBl | refine sBl ?_ GE236.out) | exact HB.out))) : w.heap.size ≤ gb237)); have n4_ := AsZ.mk ((by rw [hg]; exact (zBl (by repeat (first | (with_reducible first | exact HB.out | apply aBl | apply pBd | apply dBl | refine sBl ?_ GE236.out) | exact HB.out))) : w.heap.size ≤ gb237)); have n5_ := AsZ.mk ((by rw [hg]; exact Nat.ne_of_lt (bLt (g := gb236) (o := .cells #[.int .i64 a0_0, .bool true, .string a0_2, .int .i64 a0_3, .int .i64 a0_4] 25 (0, 0)) (by (with_reducible repeat first | apply bDn | apply bDr | apply bAl); exact BK236.out)) : gb236 ≠ gb237)); have n6_ := AsZ.mk ((by rw [hg]; exact Nat.ne_of_gt (bLt (g := gb236) (o := .cells #[.int .i64 a0_0, .bool true, .string a0_2, .int .i64 a0_3, .int .i64 a0_4] 25 (0, 0)) (by (with_reducible repeat first | apply bDn | apply bDr | apply bAl); exact BK236.out)) : gb237 ≠ gb236)); clear BK236; clear HB; have BK236 := n0_; have HB := n1_; have BK237 := n2_; have GW237 := n3_; have GE237 := n4_; have NB236_237 := n5_; have NB237_236 := n6_; clear n0_ n1_ n2_ n3_ n4_ n5_ n6_; clear hb hbox hg; have hnb7 := NB236_237.out; have hnc7 := NB237_236.out; obtain ⟨hcz8_0, hcz8_1, hcz8_2, hcz8_3, hcz8_4⟩ := celN5 BK236.out; obtain ⟨hfz8_0, hfz8_1, hfz8_2, hfz8_3, hfz8_4⟩ := fzN5 BK236.out; obtain ⟨hcz9_0, hcz9_1, hcz9_2, hcz9_3, hcz9_4⟩ := celN5 BK237.out; obtain ⟨hfz9_0, hfz9_1, hfz9_2, hfz9_3, hfz9_4⟩ := fzN5 BK237.out) | ((with_reducible refine gCa (f := 16) rfl ?_); refine gLl (some 9) rfl rfl Try.func16 (by kernel_rfl) rfl #[.agg #[.int .i64 a0_0, .bool true, .string a0_2, .int .i64 a0_3, .int .i64 a0_4], .agg #[.int .i64 a1_0, .string a1_1, .int .i64 a1_2, .string a1_3, .slice A1_4 l1_4.length c1_4]] rfl (by (try simp only [List.map_toArray, List.map_cons, List.map_nil]); first | done | rfl | (simp only [List.length_drop, List.length_take]; rfl)) ?_; (with_reducible refine (check_Head.calls k a0_0 true a0_2 a0_3 a0_4 a1_0 a1_1 a1_2 a1_3 _ _ l1_4 t238 _ ?side1 ?side2 A4.out).mono ?_); (case side1 => repeat (first | exact (Kd.C_below HR1_4.out HB.out) | (with_reducible refine Kd.C_alloc ?_ _) | (with_reducible refine Kd.C_drewN ?_ _) | (with_reducible refine Kd.C_drew ?_))); (case side2 => exact HC1_4.out); rintro e w10 ⟨rfl, hb⟩; refine ⟨_, rfl, ?_⟩; have n0_ := AsZ.mk (bBl (g := gb236) (o := .cells #[.int .i64 a0_0, .bool true, .string a0_2, .int .i64 a0_3, .int .i64 a0_4] 25 (0, 0)) (by (with_reducible repeat first | apply bDn | apply bDr | apply bAl); exact BK236.out) hb); have n1_ := AsZ.mk (bBl (g := gb237) (o := .cells #[.int .i64 a1_0, .string a1_1, .int .i64 a1_2, .string a1_3, .slice A1_4 l1_4.length c1_4] 31 (0, 0)) (by (with_reducible repeat first | apply bDn | apply bDr | apply bAl); exact BK237.out) hb); have n2_ := AsZ.mk (tBl (by repeat (first | (with_reducible first | exact HB.out | apply aBl | apply pBd | apply dBl | refine sBl ?_ GE236.out | refine sBl ?_ GE237.out) | exact HB.out)) hb); clear BK236; clear BK237; clear HB; have BK236 := n0_; have BK237 := n1_; have HB := n2_; clear n0_ n1_ n2_; (try clear hb); (try clear hb2); (try clear hk); (try clear hi)))
    go_ret
    exact ⟨by first | rfl | exact nEm _ | exact eEm _ | (simp [eWn, eWs] <;> rfl) | (simp [*, eWn, eWs] <;> rfl), by repeat (first | (with_reducible first | exact HB.out | apply aBl | apply pBd | apply dBl | refine sBl ?_ GE236.out | refine sBl ?_ GE237.out) | exact HB.out)⟩
  · replace c3 := Bool.eq_false_iff.mpr c3
    subst c3
    have H1 : ((check_Part.f k a0_0 false a0_2 a0_3 a0_4 a1_0 a1_1 a1_2 a1_3 l1_4).bind fun t239 => (some t239)) = some r := by rw [if_neg (show ¬ (false = true) by decide)] at H; exact H
    clear H
    have H := H1
    clear H1
    replace H := Option.bind_eq_some_iff.mp H
    obtain ⟨t239, A110, H⟩ := H
    replace H : (some t239) = some r := H
    have A11 := AsZ.mk A110
    clear A110
    obtain rfl := Option.some.inj H
    go_enter Try.func8, Try.ntmps8
    go_wp2_with (first | ((with_reducible refine gDs (N := 2) rfl ?_); refine bEv ?hg (N := 2) ?hd (cs := #[.int .i64 a0_0, .bool false, .string a0_2, .int .i64 a0_3, .int .i64 a0_4]) (t := 25) ?hr ?_; (case hd => rfl); (case hg => rfl); (case hr => first | (go_simp; done) | (go_simp; rfl)); intro gb236 hg w12 hbox hb; have n0_ := AsZ.mk (tBl (by repeat (first | (with_reducible first | exact HB.out | apply aBl | apply pBd | apply dBl) | exact HB.out)) hb); have n1_ := AsZ.mk (hbox); have n2_ := AsZ.mk ((by rw [hg]; exact (zBl (by repeat (first | (with_reducible first | exact HB.out | apply aBl | apply pBd | apply dBl) | exact HB.out))) : w.heap.size ≤ gb236)); have n3_ := AsZ.mk ((by rw [hg]; exact (zBl (by repeat (first | (with_reducible first | exact HB.out | apply aBl | apply pBd | apply dBl) | exact HB.out))) : w.heap.size ≤ gb236)); clear HB; have HB := n0_; have BK236 := n1_; have GW236 := n2_; have GE236 := n3_; clear n0_ n1_ n2_ n3_; clear hb hbox hg) | ((with_reducible refine gDs (N := 3) rfl ?_); refine bEv ?hg (N := 3) ?hd (cs := #[.int .i64 a1_0, .string a1_1, .int .i64 a1_2, .string a1_3, .slice A1_4 l1_4.length c1_4]) (t := 31) ?hr ?_; (case hd => rfl); (case hg => rfl); (case hr => first | (go_simp; done) | (go_simp; rfl)); intro gb237 hg w13 hbox hb; have n0_ := AsZ.mk (bBl (g := gb236) (o := .cells #[.int .i64 a0_0, .bool false, .string a0_2, .int .i64 a0_3, .int .i64 a0_4] 25 (0, 0)) (by (with_reducible repeat first | apply bDn | apply bDr | apply bAl); exact BK236.out) hb); have n1_ := AsZ.mk (tBl (by repeat (first | (with_reducible first | exact HB.out | apply aBl | apply pBd | apply dBl | refine sBl ?_ GE236.out) | exact HB.out)) hb); have n2_ := AsZ.mk (hbox); have n3_ := AsZ.mk ((by rw [hg]; exact (zBl (by repeat (first | (with_reducible first | exact HB.out | apply aBl | apply pBd | apply dBl | refine sBl ?_ GE236.out) | exact HB.out))) : w.heap.size ≤ gb237)); have n4_ := AsZ.mk ((by rw [hg]; exact (zBl (by repeat (first | (with_reducible first | exact HB.out | apply aBl | apply pBd | apply dBl | refine sBl ?_ GE236.out) | exact HB.out))) : w.heap.size ≤ gb237)); have n5_ := AsZ.mk ((by rw [hg]; exact Nat.ne_of_lt (bLt (g := gb236) (o := .cells #[.int .i64 a0_0, .bool false, .string a0_2, .int .i64 a0_3, .int .i64 a0_4] 25 (0, 0)) (by (with_reducible repeat first | apply bDn | apply bDr | apply bAl); exact BK236.out)) : gb236 ≠ gb237)); have n6_ := AsZ.mk ((by rw [hg]; exact Nat.ne_of_gt (bLt (g := gb236) (o := .cells #[.int .i64 a0_0, .bool false, .string a0_2, .int .i64 a0_3, .int .i64 a0_4] 25 (0, 0)) (by (with_reducible repeat first | apply bDn | apply bDr | apply bAl); exact BK236.out)) : gb237 ≠ gb236)); clear BK236; clear HB; have BK236 := n0_; have HB := n1_; have BK237 := n2_; have GW237 := n3_; have GE237 := n4_; have NB236_237 := n5_; have NB237_236 := n6_; clear n0_ n1_ n2_ n3_ n4_ n5_ n6_; clear hb hbox hg; have hnb14 := NB236_237.out; have hnc14 := NB237_236.out; obtain ⟨hcz15_0, hcz15_1, hcz15_2, hcz15_3, hcz15_4⟩ := celN5 BK236.out; obtain ⟨hfz15_0, hfz15_1, hfz15_2, hfz15_3, hfz15_4⟩ := fzN5 BK236.out; obtain ⟨hcz16_0, hcz16_1, hcz16_2, hcz16_3, hcz16_4⟩ := celN5 BK237.out; obtain ⟨hfz16_0, hfz16_1, hfz16_2, hfz16_3, hfz16_4⟩ := fzN5 BK237.out) | ((with_reducible refine gCa (f := 10) rfl ?_); refine gLl (some 12) rfl rfl Try.func10 (by kernel_rfl) rfl #[.agg #[.int .i64 a0_0, .bool false, .string a0_2, .int .i64 a0_3, .int .i64 a0_4], .agg #[.int .i64 a1_0, .string a1_1, .int .i64 a1_2, .string a1_3, .slice A1_4 l1_4.length c1_4]] rfl (by (try simp only [List.map_toArray, List.map_cons, List.map_nil]); first | done | rfl | (simp only [List.length_drop, List.length_take]; rfl)) ?_; (with_reducible refine (check_Part.calls k a0_0 false a0_2 a0_3 a0_4 a1_0 a1_1 a1_2 a1_3 _ _ l1_4 t239 _ ?side1 ?side2 A11.out).mono ?_); (case side1 => repeat (first | exact (Kd.C_below HR1_4.out HB.out) | (with_reducible refine Kd.C_alloc ?_ _) | (with_reducible refine Kd.C_drewN ?_ _) | (with_reducible refine Kd.C_drew ?_))); (case side2 => exact HC1_4.out); rintro e w17 ⟨rfl, hb⟩; refine ⟨_, rfl, ?_⟩; have n0_ := AsZ.mk (bBl (g := gb236) (o := .cells #[.int .i64 a0_0, .bool false, .string a0_2, .int .i64 a0_3, .int .i64 a0_4] 25 (0, 0)) (by (with_reducible repeat first | apply bDn | apply bDr | apply bAl); exact BK236.out) hb); have n1_ := AsZ.mk (bBl (g := gb237) (o := .cells #[.int .i64 a1_0, .string a1_1, .int .i64 a1_2, .string a1_3, .slice A1_4 l1_4.length c1_4] 31 (0, 0)) (by (with_reducible repeat first | apply bDn | apply bDr | apply bAl); exact BK237.out) hb); have n2_ := AsZ.mk (tBl (by repeat (first | (with_reducible first | exact HB.out | apply aBl | apply pBd | apply dBl | refine sBl ?_ GE236.out | refine sBl ?_ GE237.out) | exact HB.out)) hb); clear BK236; clear BK237; clear HB; have BK236 := n0_; have BK237 := n1_; have HB := n2_; clear n0_ n1_ n2_; (try clear hb); (try clear hb2); (try clear hk); (try clear hi)))
    go_ret
    exact ⟨by first | rfl | exact nEm _ | exact eEm _ | (simp [eWn, eWs] <;> rfl) | (simp [*, eWn, eWs] <;> rfl), by repeat (first | (with_reducible first | exact HB.out | apply aBl | apply pBd | apply dBl | refine sBl ?_ GE236.out | refine sBl ?_ GE237.out) | exact HB.out)⟩
end Go.Proofs.Ytkmkiheoelakaaa.PAll
namespace Go.Proofs.Ytkmkiheoelakaaa.PAll
open Go.RowKit Go.Proofs.Ytkmkiheoelakaaa.Xw Go.Proofs.YtkmkiheoelakaaaW.PrintWords Go.Proofs.YtkmkiheoelakaaaW.PrintLast Go.Proofs.YtkmkiheoelakaaaW.PrintMore
attribute [local go_sem] max2_int min2_int max_two min_two max_three min_three max_four min_four   -- for this text's walks alone
set_option linter.unusedVariables false
set_option linter.unusedSimpArgs false
mutual
def spencelaw33_CheckHonest.j0 : Nat → Int → Int → Int → Bool → Int → Bool → ByteArray → Int → Int → Option (Bool)
  | 0, _, _, _, _, _, _, _, _, _ => none
  | k + 1, x1, x2, x7, x35, x241000, x241001, x241002, x241003, x241004 => if x35 = true then (some true) else ((spenceref24_Tag.f k x241000 x1).bind fun t243 => ((spenceref24_Reply.f k x241000 x241001 x241002 x241003 x241004 x1).bind fun bt244 => ((check_Of.f k x241000 x241001 x241002 x241003 x241004 bt244.1 bt244.2.1 bt244.2.2.1 bt244.2.2.2.1 bt244.2.2.2.2).bind fun t252 => ((spenceref24_Faulty.f k x2 bt244.1 bt244.2.1 bt244.2.2.1 bt244.2.2.2.1 bt244.2.2.2.2).bind fun bt253 => ((check_Of.f k x241000 x241001 x241002 x241003 x241004 bt253.1 bt253.2.1 bt253.2.2.1 bt253.2.2.2.1 bt253.2.2.2.2).bind fun t260 => (if x241003 ≥ 0 then (if x241003 < x241004 then (spencelaw33_CheckHonest.j1 k x2 t243 t252 t260 (decide (x241004 ≤ x7)) x241000 x241001 x241002 x241003 x241004) else (spencelaw33_CheckHonest.j1 k x2 t243 t252 t260 false x241000 x241001 x241002 x241003 x241004)) else (spencelaw33_CheckHonest.j1 k x2 t243 t252 t260 false x241000 x241001 x241002 x241003 x241004)))))))
def spencelaw33_CheckHonest.j1 : Nat → Int → ByteArray → Int → Int → Bool → Int → Bool → ByteArray → Int → Int → Option (Bool)
  | 0, _, _, _, _, _, _, _, _, _, _ => none
  | k + 1, x2, x8, x10, x11, x12, x241000, x241001, x241002, x241003, x241004 => if x241001 = true then (spencelaw33_CheckHonest.j2 k x2 x8 x10 x11 x12 0 (x241002.toList == x8.toList) x241000 x241001 x241002 x241003 x241004) else (spencelaw33_CheckHonest.j2 k x2 x8 x10 x11 x12 0 false x241000 x241001 x241002 x241003 x241004)
def spencelaw33_CheckHonest.j3 : Nat → Int → Int → Int → Int → Int → Bool → ByteArray → Int → Int → Option (Bool)
  | 0, _, _, _, _, _, _, _, _, _ => none
  | k + 1, x2, x10, x11, x13, x241000, x241001, x241002, x241003, x241004 => if x10 = x13 then (if x2 = 0 then (some (x11 == x10)) else (if x241001 = true then (if x2 = 2 then (some (x11 == x10)) else (if x2 = 3 then (some (x11 == x10)) else (if x10 = 1 then (if x2 = 4 then (some (x11 == x10)) else (if x11 = 3 then (some true) else (some (x11 == 4)))) else (if x11 = 3 then (some true) else (some (x11 == 4)))))) else (if x10 = 1 then (if x2 = 2 then (some (x11 == x10)) else (if x2 = 3 then (some (x11 == x10)) else (if x2 = 4 then (some (x11 == x10)) else (if x11 = 3 then (some true) else (some (x11 == 4)))))) else (if x11 = 3 then (some true) else (some (x11 == 4)))))) else (some false)
def spencelaw33_CheckHonest.j2 : Nat → Int → ByteArray → Int → Int → Bool → Int → Bool → Int → Bool → ByteArray → Int → Int → Option (Bool)
  | 0, _, _, _, _, _, _, _, _, _, _, _, _ => none
  | k + 1, x2, x8, x10, x11, x12, x13, x71, x241000, x241001, x241002, x241003, x241004 => if x71 = true then (spencelaw33_CheckHonest.j3 k x2 x10 x11 2 x241000 x241001 x241002 x241003 x241004) else (if x241001 = true then (spencelaw33_CheckHonest.j3 k x2 x10 x11 0 x241000 x241001 x241002 x241003 x241004) else (if x241002.toList = x8.toList then (if x12 = true then (spencelaw33_CheckHonest.j3 k x2 x10 x11 x13 x241000 x241001 x241002 x241003 x241004) else (spencelaw33_CheckHonest.j3 k x2 x10 x11 3 x241000 x241001 x241002 x241003 x241004)) else (spencelaw33_CheckHonest.j3 k x2 x10 x11 1 x241000 x241001 x241002 x241003 x241004)))
end
def spencelaw33_CheckHonest.f (k : Nat) (a0_0 : Int) (a0_1 : Bool) (a0_2 : ByteArray) (a0_3 : Int) (a0_4 : Int) (a1 : Int) (a2 : Int) : Option (Bool) := (spencelaw33_awake.f k).bind fun t241 => (if t241 = true then ((spenceref24_Length.f a0_0 a1).bind fun t242 => (if t242 < 0 then (spencelaw33_CheckHonest.j0 k a1 a2 t242 true a0_0 a0_1 a0_2 a0_3 a0_4) else (if (a0_2.size : Int) > 100 then (spencelaw33_CheckHonest.j0 k a1 a2 t242 true a0_0 a0_1 a0_2 a0_3 a0_4) else (if a2 < 0 then (spencelaw33_CheckHonest.j0 k a1 a2 t242 true a0_0 a0_1 a0_2 a0_3 a0_4) else (spencelaw33_CheckHonest.j0 k a1 a2 t242 (decide (a2 > 5)) a0_0 a0_1 a0_2 a0_3 a0_4))))) else (some false))
theorem spencelaw33_CheckHonest.mono_l : ∀ k, (∀ y0 y1 y2 y3 y4 y5 y6 y7 y8, LeO (spencelaw33_CheckHonest.j0 k y0 y1 y2 y3 y4 y5 y6 y7 y8) (spencelaw33_CheckHonest.j0 (k + 1) y0 y1 y2 y3 y4 y5 y6 y7 y8)) ∧ (∀ y0 y1 y2 y3 y4 y5 y6 y7 y8 y9, LeO (spencelaw33_CheckHonest.j1 k y0 y1 y2 y3 y4 y5 y6 y7 y8 y9) (spencelaw33_CheckHonest.j1 (k + 1) y0 y1 y2 y3 y4 y5 y6 y7 y8 y9)) ∧ (∀ y0 y1 y2 y3 y4 y5 y6 y7 y8, LeO (spencelaw33_CheckHonest.j3 k y0 y1 y2 y3 y4 y5 y6 y7 y8) (spencelaw33_CheckHonest.j3 (k + 1) y0 y1 y2 y3 y4 y5 y6 y7 y8)) ∧ (∀ y0 y1 y2 y3 y4 y5 y6 y7 y8 y9 y10 y11, LeO (spencelaw33_CheckHonest.j2 k y0 y1 y2 y3 y4 y5 y6 y7 y8 y9 y10 y11) (spencelaw33_CheckHonest.j2 (k + 1) y0 y1 y2 y3 y4 y5 y6 y7 y8 y9 y10 y11))
  | 0 => ⟨fun _ _ _ _ _ _ _ _ _ r h => by simp [spencelaw33_CheckHonest.j0] at h, fun _ _ _ _ _ _ _ _ _ _ r h => by simp [spencelaw33_CheckHonest.j1] at h, fun _ _ _ _ _ _ _ _ _ r h => by simp [spencelaw33_CheckHonest.j3] at h, fun _ _ _ _ _ _ _ _ _ _ _ _ r h => by simp [spencelaw33_CheckHonest.j2] at h⟩
  | k + 1 => by
    obtain ⟨ih0, ih1, ih2, ih3⟩ := spencelaw33_CheckHonest.mono_l k
    refine ⟨?_, ?_, ?_, ?_⟩
    · intro y0 y1 y2 y3 y4 y5 y6 y7 y8
      unfold spencelaw33_CheckHonest.j0
      repeat' first
      | (with_reducible exact ih0 _ _ _ _ _ _ _ _ _)
      | (with_reducible exact ih1 _ _ _ _ _ _ _ _ _ _)
      | (with_reducible exact ih2 _ _ _ _ _ _ _ _ _)
      | (with_reducible exact ih3 _ _ _ _ _ _ _ _ _ _ _ _)
      | (with_reducible exact check_Of.mono _ _ _ _ _ _ _ _ _ _ _)
      | (with_reducible exact spencelaw33_awake.mono _)
      | (with_reducible exact spenceref24_Faulty.mono _ _ _ _ _ _ _)
      | (with_reducible exact spenceref24_Reply.mono _ _ _ _ _ _ _)
      | (with_reducible exact spenceref24_Tag.mono _ _ _)
      | (with_reducible exact LeO.refl _)
      | (with_reducible exact LeO.none _)
      | (with_reducible refine LeO.ite ?_ ?_)
      | (with_reducible refine LeO.bind ?_ (fun _ => ?_))
      | exact ih0 _ _ _ _ _ _ _ _ _
      | exact ih1 _ _ _ _ _ _ _ _ _ _
      | exact ih2 _ _ _ _ _ _ _ _ _
      | exact ih3 _ _ _ _ _ _ _ _ _ _ _ _
      | exact check_Of.mono _ _ _ _ _ _ _ _ _ _ _
      | exact spencelaw33_awake.mono _
      | exact spenceref24_Faulty.mono _ _ _ _ _ _ _
      | exact spenceref24_Reply.mono _ _ _ _ _ _ _
      | exact spenceref24_Tag.mono _ _ _
      | exact LeO.none _
      | refine LeO.ite ?_ ?_
      | refine LeO.bind ?_ (fun _ => ?_)
    · intro y0 y1 y2 y3 y4 y5 y6 y7 y8 y9
      unfold spencelaw33_CheckHonest.j1
      repeat' first
      | (with_reducible exact ih0 _ _ _ _ _ _ _ _ _)
      | (with_reducible exact ih1 _ _ _ _ _ _ _ _ _ _)
      | (with_reducible exact ih2 _ _ _ _ _ _ _ _ _)
      | (with_reducible exact ih3 _ _ _ _ _ _ _ _ _ _ _ _)
      | (with_reducible exact check_Of.mono _ _ _ _ _ _ _ _ _ _ _)
      | (with_reducible exact spencelaw33_awake.mono _)
      | (with_reducible exact spenceref24_Faulty.mono _ _ _ _ _ _ _)
      | (with_reducible exact spenceref24_Reply.mono _ _ _ _ _ _ _)
      | (with_reducible exact spenceref24_Tag.mono _ _ _)
      | (with_reducible exact LeO.refl _)
      | (with_reducible exact LeO.none _)
      | (with_reducible refine LeO.ite ?_ ?_)
      | (with_reducible refine LeO.bind ?_ (fun _ => ?_))
      | exact ih0 _ _ _ _ _ _ _ _ _
      | exact ih1 _ _ _ _ _ _ _ _ _ _
      | exact ih2 _ _ _ _ _ _ _ _ _
      | exact ih3 _ _ _ _ _ _ _ _ _ _ _ _
      | exact check_Of.mono _ _ _ _ _ _ _ _ _ _ _
      | exact spencelaw33_awake.mono _
      | exact spenceref24_Faulty.mono _ _ _ _ _ _ _
      | exact spenceref24_Reply.mono _ _ _ _ _ _ _
      | exact spenceref24_Tag.mono _ _ _
      | exact LeO.none _
      | refine LeO.ite ?_ ?_
      | refine LeO.bind ?_ (fun _ => ?_)
    · intro y0 y1 y2 y3 y4 y5 y6 y7 y8
      unfold spencelaw33_CheckHonest.j3
      repeat' first
      | (with_reducible exact ih0 _ _ _ _ _ _ _ _ _)
      | (with_reducible exact ih1 _ _ _ _ _ _ _ _ _ _)
      | (with_reducible exact ih2 _ _ _ _ _ _ _ _ _)
      | (with_reducible exact ih3 _ _ _ _ _ _ _ _ _ _ _ _)
      | (with_reducible exact check_Of.mono _ _ _ _ _ _ _ _ _ _ _)
      | (with_reducible exact spencelaw33_awake.mono _)
      | (with_reducible exact spenceref24_Faulty.mono _ _ _ _ _ _ _)
      | (with_reducible exact spenceref24_Reply.mono _ _ _ _ _ _ _)
      | (with_reducible exact spenceref24_Tag.mono _ _ _)
      | (with_reducible exact LeO.refl _)
      | (with_reducible exact LeO.none _)
      | (with_reducible refine LeO.ite ?_ ?_)
      | (with_reducible refine LeO.bind ?_ (fun _ => ?_))
      | exact ih0 _ _ _ _ _ _ _ _ _
      | exact ih1 _ _ _ _ _ _ _ _ _ _
      | exact ih2 _ _ _ _ _ _ _ _ _
      | exact ih3 _ _ _ _ _ _ _ _ _ _ _ _
      | exact check_Of.mono _ _ _ _ _ _ _ _ _ _ _
      | exact spencelaw33_awake.mono _
      | exact spenceref24_Faulty.mono _ _ _ _ _ _ _
      | exact spenceref24_Reply.mono _ _ _ _ _ _ _
      | exact spenceref24_Tag.mono _ _ _
      | exact LeO.none _
      | refine LeO.ite ?_ ?_
      | refine LeO.bind ?_ (fun _ => ?_)
    · intro y0 y1 y2 y3 y4 y5 y6 y7 y8 y9 y10 y11
      unfold spencelaw33_CheckHonest.j2
      repeat' first
      | (with_reducible exact ih0 _ _ _ _ _ _ _ _ _)
      | (with_reducible exact ih1 _ _ _ _ _ _ _ _ _ _)
      | (with_reducible exact ih2 _ _ _ _ _ _ _ _ _)
      | (with_reducible exact ih3 _ _ _ _ _ _ _ _ _ _ _ _)
      | (with_reducible exact check_Of.mono _ _ _ _ _ _ _ _ _ _ _)
      | (with_reducible exact spencelaw33_awake.mono _)
      | (with_reducible exact spenceref24_Faulty.mono _ _ _ _ _ _ _)
      | (with_reducible exact spenceref24_Reply.mono _ _ _ _ _ _ _)
      | (with_reducible exact spenceref24_Tag.mono _ _ _)
      | (with_reducible exact LeO.refl _)
      | (with_reducible exact LeO.none _)
      | (with_reducible refine LeO.ite ?_ ?_)
      | (with_reducible refine LeO.bind ?_ (fun _ => ?_))
      | exact ih0 _ _ _ _ _ _ _ _ _
      | exact ih1 _ _ _ _ _ _ _ _ _ _
      | exact ih2 _ _ _ _ _ _ _ _ _
      | exact ih3 _ _ _ _ _ _ _ _ _ _ _ _
      | exact check_Of.mono _ _ _ _ _ _ _ _ _ _ _
      | exact spencelaw33_awake.mono _
      | exact spenceref24_Faulty.mono _ _ _ _ _ _ _
      | exact spenceref24_Reply.mono _ _ _ _ _ _ _
      | exact spenceref24_Tag.mono _ _ _
      | exact LeO.none _
      | refine LeO.ite ?_ ?_
      | refine LeO.bind ?_ (fun _ => ?_)
theorem spencelaw33_CheckHonest.mono : ∀ a0 a1 a2 a3 a4 a5 a6 k, LeO (spencelaw33_CheckHonest.f k a0 a1 a2 a3 a4 a5 a6) (spencelaw33_CheckHonest.f (k + 1) a0 a1 a2 a3 a4 a5 a6) := by
  intro a0 a1 a2 a3 a4 a5 a6 k
  obtain ⟨ih0, ih1, ih2, ih3⟩ := spencelaw33_CheckHonest.mono_l k
  unfold spencelaw33_CheckHonest.f
  repeat' first
      | (with_reducible exact ih0 _ _ _ _ _ _ _ _ _)
      | (with_reducible exact ih1 _ _ _ _ _ _ _ _ _ _)
      | (with_reducible exact ih2 _ _ _ _ _ _ _ _ _)
      | (with_reducible exact ih3 _ _ _ _ _ _ _ _ _ _ _ _)
      | (with_reducible exact check_Of.mono _ _ _ _ _ _ _ _ _ _ _)
      | (with_reducible exact spencelaw33_awake.mono _)
      | (with_reducible exact spenceref24_Faulty.mono _ _ _ _ _ _ _)
      | (with_reducible exact spenceref24_Reply.mono _ _ _ _ _ _ _)
      | (with_reducible exact spenceref24_Tag.mono _ _ _)
      | (with_reducible exact LeO.refl _)
      | (with_reducible exact LeO.none _)
      | (with_reducible refine LeO.ite ?_ ?_)
      | (with_reducible refine LeO.bind ?_ (fun _ => ?_))
      | exact ih0 _ _ _ _ _ _ _ _ _
      | exact ih1 _ _ _ _ _ _ _ _ _ _
      | exact ih2 _ _ _ _ _ _ _ _ _
      | exact ih3 _ _ _ _ _ _ _ _ _ _ _ _
      | exact check_Of.mono _ _ _ _ _ _ _ _ _ _ _
      | exact spencelaw33_awake.mono _
      | exact spenceref24_Faulty.mono _ _ _ _ _ _ _
      | exact spenceref24_Reply.mono _ _ _ _ _ _ _
      | exact spenceref24_Tag.mono _ _ _
      | exact LeO.none _
      | refine LeO.ite ?_ ?_
      | refine LeO.bind ?_ (fun _ => ?_)
set_option maxHeartbeats 8000000 in
set_option maxRecDepth 100000 in
theorem spencelaw33_CheckHonest.calls (k : Nat) (a0_0 : Int) (a0_1 : Bool) (a0_2 : ByteArray) (a0_3 : Int) (a0_4 : Int) (a1 : Int) (a2 : Int) (r : Bool) (w : World) (h : spencelaw33_CheckHonest.f k a0_0 a0_1 a0_2 a0_3 a0_4 a1 a2 = some r) :
    Calls Try.prog 3 #[.agg #[.int .i64 a0_0, .bool a0_1, .string a0_2, .int .i64 a0_3, .int .i64 a0_4], .int .i64 a1, .int .i64 a2] w fun e w' => e = .returned (.bool r) ∧ Below w.heap.size w w' := by
  have hu25 := Try.underlying25
  have hu31 := Try.underlying31
  have HB := AsZ.mk (Below.refl w.heap.size w)
  have H : ((spencelaw33_awake.f k).bind fun t241 => (if t241 = true then ((spenceref24_Length.f a0_0 a1).bind fun t242 => (if t242 < 0 then (spencelaw33_CheckHonest.j0 k a1 a2 t242 true a0_0 a0_1 a0_2 a0_3 a0_4) else (if (a0_2.size : Int) > 100 then (spencelaw33_CheckHonest.j0 k a1 a2 t242 true a0_0 a0_1 a0_2 a0_3 a0_4) else (if a2 < 0 then (spencelaw33_CheckHonest.j0 k a1 a2 t242 true a0_0 a0_1 a0_2 a0_3 a0_4) else (spencelaw33_CheckHonest.j0 k a1 a2 t242 (decide (a2 > 5)) a0_0 a0_1 a0_2 a0_3 a0_4))))) else (some false))) = some r := h
  clear h
  replace H := Option.bind_eq_some_iff.mp H
  obtain ⟨t241, A40, H⟩ := H
  replace H : (if t241 = true then ((spenceref24_Length.f a0_0 a1).bind fun t242 => (if t242 < 0 then (spencelaw33_CheckHonest.j0 k a1 a2 t242 true a0_0 a0_1 a0_2 a0_3 a0_4) else (if (a0_2.size : Int) > 100 then (spencelaw33_CheckHonest.j0 k a1 a2 t242 true a0_0 a0_1 a0_2 a0_3 a0_4) else (if a2 < 0 then (spencelaw33_CheckHonest.j0 k a1 a2 t242 true a0_0 a0_1 a0_2 a0_3 a0_4) else (spencelaw33_CheckHonest.j0 k a1 a2 t242 (decide (a2 > 5)) a0_0 a0_1 a0_2 a0_3 a0_4))))) else (some false)) = some r := H
  have A4 := AsZ.mk A40
  clear A40
  by_cases c5 : t241 = true
  · subst c5
    have H1 : ((spenceref24_Length.f a0_0 a1).bind fun t242 => (if t242 < 0 then (spencelaw33_CheckHonest.j0 k a1 a2 t242 true a0_0 a0_1 a0_2 a0_3 a0_4) else (if (a0_2.size : Int) > 100 then (spencelaw33_CheckHonest.j0 k a1 a2 t242 true a0_0 a0_1 a0_2 a0_3 a0_4) else (if a2 < 0 then (spencelaw33_CheckHonest.j0 k a1 a2 t242 true a0_0 a0_1 a0_2 a0_3 a0_4) else (spencelaw33_CheckHonest.j0 k a1 a2 t242 (decide (a2 > 5)) a0_0 a0_1 a0_2 a0_3 a0_4))))) = some r := by rw [if_pos rfl] at H; exact H
    clear H
    have H := H1
    clear H1
    replace H := Option.bind_eq_some_iff.mp H
    obtain ⟨t242, A60, H⟩ := H
    replace H : (if t242 < 0 then (spencelaw33_CheckHonest.j0 k a1 a2 t242 true a0_0 a0_1 a0_2 a0_3 a0_4) else (if (a0_2.size : Int) > 100 then (spencelaw33_CheckHonest.j0 k a1 a2 t242 true a0_0 a0_1 a0_2 a0_3 a0_4) else (if a2 < 0 then (spencelaw33_CheckHonest.j0 k a1 a2 t242 true a0_0 a0_1 a0_2 a0_3 a0_4) else (spencelaw33_CheckHonest.j0 k a1 a2 t242 (decide (a2 > 5)) a0_0 a0_1 a0_2 a0_3 a0_4)))) = some r := H
    have A6 := AsZ.mk A60
    clear A60
    have HC7 := AsZ.mk H
    clear H
    go_enter Try.func3, Try.ntmps3
    go_upto_region 4 with (first | ((with_reducible refine gDs (N := 3) rfl ?_); (try (refine gate_guard (by rfl) ?_; dsimp only)); refine bEv ?hg (N := 3) ?hd (cs := #[.int .i64 a0_0, .bool a0_1, .string a0_2, .int .i64 a0_3, .int .i64 a0_4]) (t := 25) ?hr ?_; (case hd => rfl); (case hg => rfl); (case hr => first | (go_simp; done) | (go_simp; rfl)); intro gb240 hg w8 hbox hb; have n0_ := AsZ.mk (tBl (by repeat (first | (with_reducible first | exact HB.out | apply aBl | apply pBd | apply dBl) | exact HB.out)) hb); have n1_ := AsZ.mk (hbox); have n2_ := AsZ.mk ((by rw [hg]; exact (zBl (by repeat (first | (with_reducible first | exact HB.out | apply aBl | apply pBd | apply dBl) | exact HB.out))) : w.heap.size ≤ gb240)); have n3_ := AsZ.mk ((by rw [hg]; exact (zBl (by repeat (first | (with_reducible first | exact HB.out | apply aBl | apply pBd | apply dBl) | exact HB.out))) : w.heap.size ≤ gb240)); clear HB; have HB := n0_; have BK240 := n1_; have GW240 := n2_; have GE240 := n3_; clear n0_ n1_ n2_ n3_; clear hb hbox hg) | ((with_reducible refine gCa (f := 4) rfl ?_); refine gLl (some 14) rfl rfl Try.func4 (by kernel_rfl) rfl #[] rfl (by (try simp only [List.map_toArray, List.map_cons, List.map_nil]); first | done | rfl | (simp only [List.length_drop, List.length_take]; rfl)) ?_; (with_reducible refine (spencelaw33_awake.calls k  true _ A4.out).mono ?_); rintro e w9 ⟨rfl, hb⟩; refine ⟨_, rfl, ?_⟩; have n0_ := AsZ.mk (bBl (g := gb240) (o := .cells #[.int .i64 a0_0, .bool a0_1, .string a0_2, .int .i64 a0_3, .int .i64 a0_4] 25 (0, 0)) (by (with_reducible repeat first | apply bDn | apply bDr | apply bAl); exact BK240.out) hb); have n1_ := AsZ.mk (tBl (by repeat (first | (with_reducible first | exact HB.out | apply aBl | apply pBd | apply dBl | refine sBl ?_ GE240.out) | exact HB.out)) hb); clear BK240; clear HB; have BK240 := n0_; have HB := n1_; clear n0_ n1_; (try clear hb); (try clear hb2); (try clear hk); (try clear hi); obtain ⟨hcz10_0, hcz10_1, hcz10_2, hcz10_3, hcz10_4⟩ := celN5 BK240.out; obtain ⟨hfz10_0, hfz10_1, hfz10_2, hfz10_3, hfz10_4⟩ := fzN5 BK240.out) | ((with_reducible refine gCa (f := 5) rfl ?_); refine gLl (some 19) rfl rfl Try.func5 (by kernel_rfl) rfl #[.int .i64 a0_0, .int .i64 a1] rfl (by (try simp only [List.map_toArray, List.map_cons, List.map_nil]); first | done | rfl | (simp only [List.length_drop, List.length_take]; rfl)) ?_; (with_reducible refine (spenceref24_Length.calls a0_0 a1 t242 _ A6.out).mono ?_); rintro e w' ⟨rfl, ⟨nd, rfl⟩⟩; refine ⟨_, rfl, ?_⟩))
    (try simp only [Act.put, List.setIfInBounds_toArray, List.set_cons_zero, List.set_cons_succ])
    go_cut [35] (fun v35 wc => ∃ (kq : Nat) (x35_6 : Bool), v35 = .bool x35_6 ∧ AsZ (spencelaw33_CheckHonest.j0 kq a1 a2 t242 x35_6 a0_0 a0_1 a0_2 a0_3 a0_4 = some r) ∧ AsZ (kq ≤ k) ∧ AsZ (wc.heap[gb240]? = some (.cells #[.int .i64 a0_0, .bool a0_1, .string a0_2, .int .i64 a0_3, .int .i64 a0_4] 25 (0, 0))) ∧ AsZ (Below w.heap.size w wc))
    case first =>
      have H := HC7.out
      clear HC7
      by_cases c11 : t242 < 0
      · rw [if_pos c11] at H
        have c11b0 : decide (t242 < 0) = true := decide_eq_true c11
        clear c11
        (first | rw [c11b0] | (simp only [i64_w, i32_w]; rw [c11b0]) | skip)
        have H' := AsZ.mk H
        clear H
        go_wp2
        go_meet
        case rel => exact ⟨_, (true), (by first | rfl | (simp; done) | (simp [*]; done)), H', ⟨by first | omega | exact Nat.le_refl _⟩, ⟨by (with_reducible repeat first | apply bDn | apply bDr | apply bAl); exact BK240.out⟩, ⟨by repeat (first | (with_reducible first | exact HB.out | apply aBl | apply pBd | apply dBl | refine sBl ?_ GE240.out) | exact HB.out)⟩⟩
      · rw [if_neg c11] at H
        have c11b0 : decide (t242 < 0) = false := decide_eq_false c11
        clear c11
        (first | rw [c11b0] | (simp only [i64_w, i32_w]; rw [c11b0]) | skip)
        by_cases c12 : (a0_2.size : Int) > 100
        · rw [if_pos c12] at H
          have c12b0 : decide (100 < (a0_2.size : Int)) = true := decide_eq_true c12
          have c12b1 : decide (100 < a0_2.size) = true := decide_eq_true (by omega)
          clear c12
          have H' := AsZ.mk H
          clear H
          obtain ⟨hcz13_0, hcz13_1, hcz13_2, hcz13_3, hcz13_4⟩ := celN5 BK240.out
          obtain ⟨hfz13_0, hfz13_1, hfz13_2, hfz13_3, hfz13_4⟩ := fzN5 BK240.out
          go_wp2
          go_meet
          case rel => exact ⟨_, (true), (by first | rfl | (simp; done) | (simp [*]; done)), H', ⟨by first | omega | exact Nat.le_refl _⟩, ⟨by (with_reducible repeat first | apply bDn | apply bDr | apply bAl); exact BK240.out⟩, ⟨by repeat (first | (with_reducible first | exact HB.out | apply aBl | apply pBd | apply dBl | refine sBl ?_ GE240.out) | exact HB.out)⟩⟩
        · rw [if_neg c12] at H
          have c12b0 : decide (100 < (a0_2.size : Int)) = false := decide_eq_false c12
          have c12b1 : decide (100 < a0_2.size) = false := decide_eq_false (by omega)
          clear c12
          by_cases c14 : a2 < 0
          · rw [if_pos c14] at H
            have c14b0 : decide (a2 < 0) = true := decide_eq_true c14
            clear c14
            have H' := AsZ.mk H
            clear H
            obtain ⟨hcz15_0, hcz15_1, hcz15_2, hcz15_3, hcz15_4⟩ := celN5 BK240.out
            obtain ⟨hfz15_0, hfz15_1, hfz15_2, hfz15_3, hfz15_4⟩ := fzN5 BK240.out
            go_wp2
            go_meet
            case rel => exact ⟨_, (true), (by first | rfl | (simp; done) | (simp [*]; done)), H', ⟨by first | omega | exact Nat.le_refl _⟩, ⟨by (with_reducible repeat first | apply bDn | apply bDr | apply bAl); exact BK240.out⟩, ⟨by repeat (first | (with_reducible first | exact HB.out | apply aBl | apply pBd | apply dBl | refine sBl ?_ GE240.out) | exact HB.out)⟩⟩
          · rw [if_neg c14] at H
            have c14b0 : decide (a2 < 0) = false := decide_eq_false c14
            clear c14
            have H' := AsZ.mk H
            clear H
            obtain ⟨hcz16_0, hcz16_1, hcz16_2, hcz16_3, hcz16_4⟩ := celN5 BK240.out
            obtain ⟨hfz16_0, hfz16_1, hfz16_2, hfz16_3, hfz16_4⟩ := fzN5 BK240.out
            go_wp2
            go_meet
            case rel => exact ⟨_, (decide (a2 > 5)), (by first | rfl | (simp; done) | (simp [*]; done)), H', ⟨by first | omega | exact Nat.le_refl _⟩, ⟨by (with_reducible repeat first | apply bDn | apply bDr | apply bAl); exact BK240.out⟩, ⟨by repeat (first | (with_reducible first | exact HB.out | apply aBl | apply pBd | apply dBl | refine sBl ?_ GE240.out) | exact HB.out)⟩⟩
    case rest =>
      clear HC7
      try clear c1
      try clear p2
      try clear c3
      try clear c4
      try clear c5
      try clear c11
      try clear c11b0
      try clear c12
      try clear c12b0
      try clear c12b1
      try clear c14
      try clear c14b0
      try clear hcz10_0
      try clear hcz10_1
      try clear hcz10_2
      try clear hcz10_3
      try clear hcz10_4
      try clear hcz13_0
      try clear hcz13_1
      try clear hcz13_2
      try clear hcz13_3
      try clear hcz13_4
      try clear hcz15_0
      try clear hcz15_1
      try clear hcz15_2
      try clear hcz15_3
      try clear hcz15_4
      try clear hcz16_0
      try clear hcz16_1
      try clear hcz16_2
      try clear hcz16_3
      try clear hcz16_4
      try clear hfz10_0
      try clear hfz10_1
      try clear hfz10_2
      try clear hfz10_3
      try clear hfz10_4
      try clear hfz13_0
      try clear hfz13_1
      try clear hfz13_2
      try clear hfz13_3
      try clear hfz13_4
      try clear hfz15_0
      try clear hfz15_1
      try clear hfz15_2
      try clear hfz15_3
      try clear hfz15_4
      try clear hfz16_0
      try clear hfz16_1
      try clear hfz16_2
      try clear hfz16_3
      try clear hfz16_4
      obtain ⟨kq, x35_6, rfl, HA, HJ6, BK240, HB⟩ := hcut
      cases kq with
      | zero => exact absurd HA.out (by simp [spencelaw33_CheckHonest.j0])
      | succ kj6 =>
        have H := HA.out
        clear HA
        simp only [spencelaw33_CheckHonest.j0] at H
        by_cases c17 : x35_6 = true
        · subst c17
          have H1 : (some true) = some r := by rw [if_pos rfl] at H; exact H
          clear H
          have H := H1
          clear H1
          obtain rfl := Option.some.inj H
          go_wp2
          go_ret
          exact ⟨by first | rfl | exact nEm _ | exact eEm _ | (simp [eWn, eWs] <;> rfl) | (simp [*, eWn, eWs] <;> rfl), by repeat (first | (with_reducible first | exact HB.out | apply aBl | apply pBd | apply dBl | refine sBl ?_ GE240.out) | exact HB.out)⟩
        · replace c17 := Bool.eq_false_iff.mpr c17
          subst c17
          have H1 : ((spenceref24_Tag.f kj6 a0_0 a1).bind fun t243 => ((spenceref24_Reply.f kj6 a0_0 a0_1 a0_2 a0_3 a0_4 a1).bind fun bt244 => ((check_Of.f kj6 a0_0 a0_1 a0_2 a0_3 a0_4 bt244.1 bt244.2.1 bt244.2.2.1 bt244.2.2.2.1 bt244.2.2.2.2).bind fun t252 => ((spenceref24_Faulty.f kj6 a2 bt244.1 bt244.2.1 bt244.2.2.1 bt244.2.2.2.1 bt244.2.2.2.2).bind fun bt253 => ((check_Of.f kj6 a0_0 a0_1 a0_2 a0_3 a0_4 bt253.1 bt253.2.1 bt253.2.2.1 bt253.2.2.2.1 bt253.2.2.2.2).bind fun t260 => (if a0_3 ≥ 0 then (if a0_3 < a0_4 then (spencelaw33_CheckHonest.j1 kj6 a2 t243 t252 t260 (decide (a0_4 ≤ t242)) a0_0 a0_1 a0_2 a0_3 a0_4) else (spencelaw33_CheckHonest.j1 kj6 a2 t243 t252 t260 false a0_0 a0_1 a0_2 a0_3 a0_4)) else (spencelaw33_CheckHonest.j1 kj6 a2 t243 t252 t260 false a0_0 a0_1 a0_2 a0_3 a0_4))))))) = some r := by rw [if_neg (show ¬ (false = true) by decide)] at H; exact H
          clear H
          have H := H1
          clear H1
          replace H := Option.bind_eq_some_iff.mp H
          obtain ⟨t243, A180, H⟩ := H
          replace H : ((spenceref24_Reply.f kj6 a0_0 a0_1 a0_2 a0_3 a0_4 a1).bind fun bt244 => ((check_Of.f kj6 a0_0 a0_1 a0_2 a0_3 a0_4 bt244.1 bt244.2.1 bt244.2.2.1 bt244.2.2.2.1 bt244.2.2.2.2).bind fun t252 => ((spenceref24_Faulty.f kj6 a2 bt244.1 bt244.2.1 bt244.2.2.1 bt244.2.2.2.1 bt244.2.2.2.2).bind fun bt253 => ((check_Of.f kj6 a0_0 a0_1 a0_2 a0_3 a0_4 bt253.1 bt253.2.1 bt253.2.2.1 bt253.2.2.2.1 bt253.2.2.2.2).bind fun t260 => (if a0_3 ≥ 0 then (if a0_3 < a0_4 then (spencelaw33_CheckHonest.j1 kj6 a2 t243 t252 t260 (decide (a0_4 ≤ t242)) a0_0 a0_1 a0_2 a0_3 a0_4) else (spencelaw33_CheckHonest.j1 kj6 a2 t243 t252 t260 false a0_0 a0_1 a0_2 a0_3 a0_4)) else (spencelaw33_CheckHonest.j1 kj6 a2 t243 t252 t260 false a0_0 a0_1 a0_2 a0_3 a0_4)))))) = some r := H
          have A18 := AsZ.mk A180
          clear A180
          replace H := Option.bind_eq_some_iff.mp H
          obtain ⟨⟨t244, t245, t246, t247, t248⟩, A190, H⟩ := H
          replace H : ((check_Of.f kj6 a0_0 a0_1 a0_2 a0_3 a0_4 t244 t245 t246 t247 t248).bind fun t252 => ((spenceref24_Faulty.f kj6 a2 t244 t245 t246 t247 t248).bind fun bt253 => ((check_Of.f kj6 a0_0 a0_1 a0_2 a0_3 a0_4 bt253.1 bt253.2.1 bt253.2.2.1 bt253.2.2.2.1 bt253.2.2.2.2).bind fun t260 => (if a0_3 ≥ 0 then (if a0_3 < a0_4 then (spencelaw33_CheckHonest.j1 kj6 a2 t243 t252 t260 (decide (a0_4 ≤ t242)) a0_0 a0_1 a0_2 a0_3 a0_4) else (spencelaw33_CheckHonest.j1 kj6 a2 t243 t252 t260 false a0_0 a0_1 a0_2 a0_3 a0_4)) else (spencelaw33_CheckHonest.j1 kj6 a2 t243 t252 t260 false a0_0 a0_1 a0_2 a0_3 a0_4))))) = some r := H
          have A19 := AsZ.mk A190
          clear A190
          replace H := Option.bind_eq_some_iff.mp H
          obtain ⟨t252, A200, H⟩ := H
          replace H : ((spenceref24_Faulty.f kj6 a2 t244 t245 t246 t247 t248).bind fun bt253 => ((check_Of.f kj6 a0_0 a0_1 a0_2 a0_3 a0_4 bt253.1 bt253.2.1 bt253.2.2.1 bt253.2.2.2.1 bt253.2.2.2.2).bind fun t260 => (if a0_3 ≥ 0 then (if a0_3 < a0_4 then (spencelaw33_CheckHonest.j1 kj6 a2 t243 t252 t260 (decide (a0_4 ≤ t242)) a0_0 a0_1 a0_2 a0_3 a0_4) else (spencelaw33_CheckHonest.j1 kj6 a2 t243 t252 t260 false a0_0 a0_1 a0_2 a0_3 a0_4)) else (spencelaw33_CheckHonest.j1 kj6 a2 t243 t252 t260 false a0_0 a0_1 a0_2 a0_3 a0_4)))) = some r := H
          have A20 := AsZ.mk A200
          clear A200
          replace H := Option.bind_eq_some_iff.mp H
          obtain ⟨⟨t253, t254, t255, t256, t257⟩, A210, H⟩ := H
          replace H : ((check_Of.f kj6 a0_0 a0_1 a0_2 a0_3 a0_4 t253 t254 t255 t256 t257).bind fun t260 => (if a0_3 ≥ 0 then (if a0_3 < a0_4 then (spencelaw33_CheckHonest.j1 kj6 a2 t243 t252 t260 (decide (a0_4 ≤ t242)) a0_0 a0_1 a0_2 a0_3 a0_4) else (spencelaw33_CheckHonest.j1 kj6 a2 t243 t252 t260 false a0_0 a0_1 a0_2 a0_3 a0_4)) else (spencelaw33_CheckHonest.j1 kj6 a2 t243 t252 t260 false a0_0 a0_1 a0_2 a0_3 a0_4))) = some r := H
          have A21 := AsZ.mk A210
          clear A210
          replace H := Option.bind_eq_some_iff.mp H
          obtain ⟨t260, A220, H⟩ := H
          replace H : (if a0_3 ≥ 0 then (if a0_3 < a0_4 then (spencelaw33_CheckHonest.j1 kj6 a2 t243 t252 t260 (decide (a0_4 ≤ t242)) a0_0 a0_1 a0_2 a0_3 a0_4) else (spencelaw33_CheckHonest.j1 kj6 a2 t243 t252 t260 false a0_0 a0_1 a0_2 a0_3 a0_4)) else (spencelaw33_CheckHonest.j1 kj6 a2 t243 t252 t260 false a0_0 a0_1 a0_2 a0_3 a0_4)) = some r := H
          have A22 := AsZ.mk A220
          clear A220
          have HC23 := AsZ.mk H
          clear H
          obtain ⟨hcz24_0, hcz24_1, hcz24_2, hcz24_3, hcz24_4⟩ := celN5 BK240.out
          obtain ⟨hfz24_0, hfz24_1, hfz24_2, hfz24_3, hfz24_4⟩ := fzN5 BK240.out
          try go_wp2_with (first | ((with_reducible refine gCa (f := 6) rfl ?_); refine gLl (some 39) rfl rfl Try.func6 (by kernel_rfl) rfl #[.int .i64 a0_0, .int .i64 a1] rfl (by (try simp only [List.map_toArray, List.map_cons, List.map_nil]); first | done | rfl | (simp only [List.length_drop, List.length_take]; rfl)) ?_; (with_reducible refine (spenceref24_Tag.calls kj6 a0_0 a1 t243 _ A18.out).mono ?_); rintro e w25 ⟨rfl, hb⟩; refine ⟨_, rfl, ?_⟩; have n0_ := AsZ.mk (bBl (g := gb240) (o := .cells #[.int .i64 a0_0, .bool a0_1, .string a0_2, .int .i64 a0_3, .int .i64 a0_4] 25 (0, 0)) (by (with_reducible repeat first | apply bDn | apply bDr | apply bAl); exact BK240.out) hb); have n1_ := AsZ.mk (tBl (by repeat (first | (with_reducible first | exact HB.out | apply aBl | apply pBd | apply dBl | refine sBl ?_ GE240.out) | exact HB.out)) hb); clear BK240; clear HB; have BK240 := n0_; have HB := n1_; clear n0_ n1_; (try clear hb); (try clear hb2); (try clear hk); (try clear hi); obtain ⟨hcz26_0, hcz26_1, hcz26_2, hcz26_3, hcz26_4⟩ := celN5 BK240.out; obtain ⟨hfz26_0, hfz26_1, hfz26_2, hfz26_3, hfz26_4⟩ := fzN5 BK240.out) | ((with_reducible refine gCa (f := 7) rfl ?_); refine gLl (some 42) rfl rfl Try.func7 (by kernel_rfl) rfl #[.agg #[.int .i64 a0_0, .bool a0_1, .string a0_2, .int .i64 a0_3, .int .i64 a0_4], .int .i64 a1] rfl (by (try simp only [List.map_toArray, List.map_cons, List.map_nil]); first | done | rfl | (simp only [List.length_drop, List.length_take]; rfl)) ?_; (with_reducible refine (spenceref24_Reply.calls kj6 a0_0 a0_1 a0_2 a0_3 a0_4 a1 t244 t245 t246 t247 t248 _ A19.out).mono ?_); rintro e w27 ⟨v249, rfl, ho0, hb⟩; refine ⟨_, rfl, ?_⟩; have n0_ := AsZ.mk (Kd.R_lower ho0 (zBl (by repeat (first | (with_reducible first | exact HB.out | apply aBl | apply pBd | apply dBl | refine sBl ?_ GE240.out) | exact HB.out)))); have n1_ := AsZ.mk (bBl (g := gb240) (o := .cells #[.int .i64 a0_0, .bool a0_1, .string a0_2, .int .i64 a0_3, .int .i64 a0_4] 25 (0, 0)) (by (with_reducible repeat first | apply bDn | apply bDr | apply bAl); exact BK240.out) hb); have n2_ := AsZ.mk (tBl (by repeat (first | (with_reducible first | exact HB.out | apply aBl | apply pBd | apply dBl | refine sBl ?_ GE240.out) | exact HB.out)) hb); clear BK240; clear HB; have HO250 := n0_; have BK240 := n1_; have HB := n2_; clear n0_ n1_ n2_; (try clear hb); (try clear hb2); (try clear hk); (try clear hi); (try clear ho0)) | ((with_reducible refine gDs (N := 9) rfl ?_); (try (refine gate_guard (by rfl) ?_; dsimp only)); refine bEv ?hg (N := 9) ?hd (cs := #[.int .i64 0, .string (⟨#[]⟩ : ByteArray), .int .i64 0, .string (⟨#[]⟩ : ByteArray), .slice none 0 0]) (t := 31) ?hr ?_; (case hd => rfl); (case hg => rfl); (case hr => first | (go_simp; done) | (go_simp; rfl)); intro gb251 hg w28 hbox hb; have n0_ := AsZ.mk (Kd.R_below (by (with_reducible repeat (first | apply Kd.R_alloc | apply Kd.R_drewN | apply Kd.R_drew)); exact HO250.out) hb); have n1_ := AsZ.mk (bBl (g := gb240) (o := .cells #[.int .i64 a0_0, .bool a0_1, .string a0_2, .int .i64 a0_3, .int .i64 a0_4] 25 (0, 0)) (by (with_reducible repeat first | apply bDn | apply bDr | apply bAl); exact BK240.out) hb); have n2_ := AsZ.mk (tBl (by repeat (first | (with_reducible first | exact HB.out | apply aBl | apply pBd | apply dBl | refine sBl ?_ GE240.out) | exact HB.out)) hb); have n3_ := AsZ.mk (hbox); have n4_ := AsZ.mk ((by rw [hg]; exact (zBl (by repeat (first | (with_reducible first | exact HB.out | apply aBl | apply pBd | apply dBl | refine sBl ?_ GE240.out) | exact HB.out))) : w.heap.size ≤ gb251)); have n5_ := AsZ.mk ((by rw [hg]; exact (zBl (by repeat (first | (with_reducible first | exact HB.out | apply aBl | apply pBd | apply dBl | refine sBl ?_ GE240.out) | exact HB.out))) : w.heap.size ≤ gb251)); have n6_ := AsZ.mk ((by rw [hg]; exact Nat.ne_of_lt (bLt (g := gb240) (o := .cells #[.int .i64 a0_0, .bool a0_1, .string a0_2, .int .i64 a0_3, .int .i64 a0_4] 25 (0, 0)) (by (with_reducible repeat first | apply bDn | apply bDr | apply bAl); exact BK240.out)) : gb240 ≠ gb251)); have n7_ := AsZ.mk ((by rw [hg]; exact Nat.ne_of_gt (bLt (g := gb240) (o := .cells #[.int .i64 a0_0, .bool a0_1, .string a0_2, .int .i64 a0_3, .int .i64 a0_4] 25 (0, 0)) (by (with_reducible repeat first | apply bDn | apply bDr | apply bAl); exact BK240.out)) : gb251 ≠ gb240)); clear HO250; clear BK240; clear HB; have HO250 := n0_; have BK240 := n1_; have HB := n2_; have BK251 := n3_; have GW251 := n4_; have GE251 := n5_; have NB240_251 := n6_; have NB251_240 := n7_; clear n0_ n1_ n2_ n3_ n4_ n5_ n6_ n7_; clear hb hbox hg; have hnb29 := NB251_240.out; have hnc29 := NB240_251.out; obtain ⟨hcz30_0, hcz30_1, hcz30_2, hcz30_3, hcz30_4⟩ := celN5 BK251.out; obtain ⟨hfz30_0, hfz30_1, hfz30_2, hfz30_3, hfz30_4⟩ := fzN5 BK251.out; obtain ⟨Ao31, co31, eo31⟩ := Kd.R_slice HO250.out; subst eo31; obtain ⟨hcz32_0, hcz32_1, hcz32_2, hcz32_3, hcz32_4⟩ := celN5 BK240.out; obtain ⟨hfz32_0, hfz32_1, hfz32_2, hfz32_3, hfz32_4⟩ := fzN5 BK240.out) | ((with_reducible refine gCa (f := 8) rfl ?_); refine gLl (some 45) rfl rfl Try.func8 (by kernel_rfl) rfl #[.agg #[.int .i64 a0_0, .bool a0_1, .string a0_2, .int .i64 a0_3, .int .i64 a0_4], .agg #[.int .i64 t244, .string t245, .int .i64 t246, .string t247, .slice Ao31 t248.length co31]] rfl (by (try simp only [List.map_toArray, List.map_cons, List.map_nil]); first | done | rfl | (simp only [List.length_drop, List.length_take]; rfl)) ?_; (with_reducible refine (check_Of.calls kj6 a0_0 a0_1 a0_2 a0_3 a0_4 t244 t245 t246 t247 _ _ t248 t252 _ ?side1 ?side2 A20.out).mono ?_); (case side1 => refine (Kd.R_reads' (e := 5) (base := w.heap.size) (ok := fun k_ => True) (n := t248.length) (c := co31) ?_).2.2; exact (by (with_reducible repeat (first | apply Kd.R_alloc | apply Kd.R_drewN | apply Kd.R_drew)); exact (Kd.R_mono (Kd.R_far (p := ⟨gb251, 4, none⟩) (Kd.R_far (p := ⟨gb251, 3, none⟩) (Kd.R_far (p := ⟨gb251, 2, none⟩) (Kd.R_far (p := ⟨gb251, 1, none⟩) (Kd.R_far (p := ⟨gb251, 0, none⟩) (Kd.R_types HO250.out BK251.out (by decide)) (fun _ hk => hk.2) (.int .i64 t244)) (fun _ hk => hk.2) (.string t245)) (fun _ hk => hk.2) (.int .i64 t246)) (fun _ hk => hk.2) (.string t247)) (fun _ hk => hk.2) (.slice Ao31 t248.length co31)) (fun _ h_ => h_.1)))); (case side2 => exact (Kd.R_reads' HO250.out).2.1); rintro e w33 ⟨rfl, hb⟩; refine ⟨_, rfl, ?_⟩; have n0_ := AsZ.mk (Kd.R_below (by (with_reducible repeat (first | apply Kd.R_alloc | apply Kd.R_drewN | apply Kd.R_drew)); exact (Kd.R_mono (Kd.R_far (p := ⟨gb251, 4, none⟩) (Kd.R_far (p := ⟨gb251, 3, none⟩) (Kd.R_far (p := ⟨gb251, 2, none⟩) (Kd.R_far (p := ⟨gb251, 1, none⟩) (Kd.R_far (p := ⟨gb251, 0, none⟩) (Kd.R_types HO250.out BK251.out (by decide)) (fun _ hk => hk.2) (.int .i64 t244)) (fun _ hk => hk.2) (.string t245)) (fun _ hk => hk.2) (.int .i64 t246)) (fun _ hk => hk.2) (.string t247)) (fun _ hk => hk.2) (.slice Ao31 t248.length co31)) (fun _ h_ => h_.1))) hb); have n1_ := AsZ.mk (bBl (g := gb240) (o := .cells #[.int .i64 a0_0, .bool a0_1, .string a0_2, .int .i64 a0_3, .int .i64 a0_4] 25 (0, 0)) (by (with_reducible repeat first | apply bDn | apply bDr | apply bAl); refine bFr ?_ NB240_251.out _; (with_reducible repeat first | apply bDn | apply bDr | apply bAl); refine bFr ?_ NB240_251.out _; (with_reducible repeat first | apply bDn | apply bDr | apply bAl); refine bFr ?_ NB240_251.out _; (with_reducible repeat first | apply bDn | apply bDr | apply bAl); refine bFr ?_ NB240_251.out _; (with_reducible repeat first | apply bDn | apply bDr | apply bAl); refine bFr ?_ NB240_251.out _; (with_reducible repeat first | apply bDn | apply bDr | apply bAl); exact BK240.out) hb); have n2_ := AsZ.mk (bBl (g := gb251) (o := .cells #[.int .i64 t244, .string t245, .int .i64 t246, .string t247, .slice Ao31 t248.length co31] 31 (0, 0)) (by (with_reducible repeat first | apply bDn | apply bDr | apply bAl); refine bPu (cs := #[.int .i64 t244, .string t245, .int .i64 t246, .string t247, .slice none 0 0]) ?_ 4 _ rfl; (with_reducible repeat first | apply bDn | apply bDr | apply bAl); refine bPu (cs := #[.int .i64 t244, .string t245, .int .i64 t246, .string (⟨#[]⟩ : ByteArray), .slice none 0 0]) ?_ 3 _ rfl; (with_reducible repeat first | apply bDn | apply bDr | apply bAl); refine bPu (cs := #[.int .i64 t244, .string t245, .int .i64 0, .string (⟨#[]⟩ : ByteArray), .slice none 0 0]) ?_ 2 _ rfl; (with_reducible repeat first | apply bDn | apply bDr | apply bAl); refine bPu (cs := #[.int .i64 t244, .string (⟨#[]⟩ : ByteArray), .int .i64 0, .string (⟨#[]⟩ : ByteArray), .slice none 0 0]) ?_ 1 _ rfl; (with_reducible repeat first | apply bDn | apply bDr | apply bAl); refine bPu (cs := #[.int .i64 0, .string (⟨#[]⟩ : ByteArray), .int .i64 0, .string (⟨#[]⟩ : ByteArray), .slice none 0 0]) ?_ 0 _ rfl; (with_reducible repeat first | apply bDn | apply bDr | apply bAl); exact BK251.out) hb); have n3_ := AsZ.mk (tBl (by repeat (first | (with_reducible first | exact HB.out | apply aBl | apply pBd | apply dBl | refine sBl ?_ GE240.out | refine sBl ?_ GE251.out) | exact HB.out)) hb); clear HO250; clear BK240; clear BK251; clear HB; have HO250 := n0_; have BK240 := n1_; have BK251 := n2_; have HB := n3_; clear n0_ n1_ n2_ n3_; (try clear hb); (try clear hb2); (try clear hk); (try clear hi)))
          have n0_ := AsZ.mk (Kd.R_drew HO250.out)
          have n1_ := AsZ.mk (bDr BK240.out)
          have n2_ := AsZ.mk (bDr BK251.out)
          have n3_ := AsZ.mk (dBl HB.out)
          clear HO250
          clear BK240
          clear BK251
          clear HB
          have HO250 := n0_
          have BK240 := n1_
          have BK251 := n2_
          have HB := n3_
          clear n0_ n1_ n2_ n3_
          refine start_ (n := 6) (S := fun w' => w'.cell? ⟨gb240, 0, none⟩ = some (.int .i64 a0_0) ∧ w'.cell? ⟨gb240, 1, none⟩ = some (.bool a0_1) ∧ w'.cell? ⟨gb240, 2, none⟩ = some (.string a0_2) ∧ w'.cell? ⟨gb240, 3, none⟩ = some (.int .i64 a0_3) ∧ w'.cell? ⟨gb240, 4, none⟩ = some (.int .i64 a0_4) ∧ w'.cell? ⟨gb251, 0, none⟩ = some (.int .i64 t244) ∧ w'.cell? ⟨gb251, 1, none⟩ = some (.string t245) ∧ w'.cell? ⟨gb251, 2, none⟩ = some (.int .i64 t246) ∧ w'.cell? ⟨gb251, 3, none⟩ = some (.string t247) ∧ w'.cell? ⟨gb251, 4, none⟩ = some (.slice Ao31 t248.length co31)) (ds := []) #[false, false, false, false, false, false] (by kernel_rfl) rfl rfl ⟨(bCe BK240.out 0).trans rfl, (bCe BK240.out 1).trans rfl, (bCe BK240.out 2).trans rfl, (bCe BK240.out 3).trans rfl, (bCe BK240.out 4).trans rfl, (bCe BK251.out 0).trans rfl, (bCe BK251.out 1).trans rfl, (bCe BK251.out 2).trans rfl, (bCe BK251.out 3).trans rfl, (bCe BK251.out 4).trans rfl⟩ (fun hHeld => ?_)
          generalize w33.drew = w34 at HO250 BK240 BK251 HB hHeld ⊢
          refine pure_ (i := 1) (N := some 47) (v := ?_) (a' := ?_) #[false, true, false, false, false, false] rfl rfl (by kernel_rfl) (fun _ _ _ h => h) (Or.inl ⟨by rfl, ?_⟩) ?_ ?_
          rotate_left
          · intro w'
            go_simp
            with_reducible rfl
          rotate_left
          · simp only [Act.put, List.setIfInBounds_toArray, List.set_cons_zero, List.set_cons_succ, i64_w, i32_w]
            rfl
          refine take_ (i := 0) (N := some 46) (v := ?_) (a' := ?_) #[true, true, false, false, false, false] rfl rfl (by kernel_rfl) (fun _ _ _ h => h) (Or.inl ⟨by rfl, ?_⟩) hHeld ?_ ?_
          rotate_left
          · rintro w' ⟨s0, s1, s2, s3, s4, s5, s6, s7, s8, s9⟩
            go_simp
            with_reducible rfl
          rotate_left
          · simp only [Act.put, List.setIfInBounds_toArray, List.set_cons_zero, List.set_cons_succ, i64_w, i32_w]
            rfl
          refine take_ (i := 2) (N := some 48) (v := ?_) (a' := ?_) #[true, true, true, false, false, false] rfl rfl (by kernel_rfl) (fun _ _ _ h => h) (Or.inl ⟨by rfl, ?_⟩) hHeld ?_ ?_
          rotate_left
          · rintro w' ⟨s0, s1, s2, s3, s4, s5, s6, s7, s8, s9⟩
            go_simp
            with_reducible rfl
          rotate_left
          · simp only [Act.put, List.setIfInBounds_toArray, List.set_cons_zero, List.set_cons_succ, i64_w, i32_w]
            rfl
          refine one_ (i := 3) (N := some 49) #[true, true, true, true, false, false] rfl rfl (by kernel_rfl) (by decide) (fun K hK => ?_)
          refine goes_ Try.func9 (by kernel_rfl) rfl #[.int .i64 a2, .agg #[.int .i64 t244, .string t245, .int .i64 t246, .string t247, .slice Ao31 t248.length co31]] (by rfl) rfl rfl (by (try simp only [List.map_toArray, List.map_cons, List.map_nil]); first | done | rfl | (simp only [List.length_drop, List.length_take]; rfl)) ?_
          with_reducible refine (spenceref24_Faulty.calls kj6 a2 t244 t245 t246 t247 (fun k_ => some k_ = (.slice Ao31 t248.length co31 : Value).ownBlock) _ _ t248 t253 t254 t255 t256 t257 _ ?side1 A21.out).mono ?_
          (case side1 => exact Kd.R_V (Kd.R_tight rfl (Kd.R_types (Kd.R_types (HO250.out) BK240.out (by decide)) BK251.out (by decide))))
          rintro e w35 ⟨v258, rfl, ho0, hb⟩
          refine ⟨_, rfl, ?_⟩
          have n0_ := AsZ.mk (Kd.R_below (by (with_reducible repeat (first | apply Kd.R_alloc | apply Kd.R_drewN | apply Kd.R_drew)); exact HO250.out) hb)
          have n1_ := AsZ.mk (Kd.V_lower (Kd.V_mono (ok' := fun k_ => k_ ≠ gb240 ∧ k_ ≠ gb251) ho0 (fun k_ hk_ => ⟨Or.elim hk_ (fun hs_ => ((Kd.R_types (Kd.R_types (HO250.out) BK240.out (by decide)) BK251.out (by decide)).1 k_ hs_.symm).1.2) (fun hn_ => (Kd.freshB (g := gb240) (o := .cells #[.int .i64 a0_0, .bool a0_1, .string a0_2, .int .i64 a0_3, .int .i64 a0_4] 25 (0, 0)) (by (with_reducible repeat first | apply bDn | apply bDr | apply bAl); exact BK240.out) k_ hn_)), Or.elim hk_ (fun hs_ => ((Kd.R_types (Kd.R_types (HO250.out) BK240.out (by decide)) BK251.out (by decide)).1 k_ hs_.symm).2) (fun hn_ => (Kd.freshB (g := gb251) (o := .cells #[.int .i64 t244, .string t245, .int .i64 t246, .string t247, .slice Ao31 t248.length co31] 31 (0, 0)) (by (with_reducible repeat first | apply bDn | apply bDr | apply bAl); exact BK251.out) k_ hn_))⟩)) (zBl (by repeat (first | (with_reducible first | exact HB.out | apply aBl | apply pBd | apply dBl | refine sBl ?_ GE240.out | refine sBl ?_ GE251.out) | exact HB.out))))
          have n2_ := AsZ.mk (bBl (g := gb240) (o := .cells #[.int .i64 a0_0, .bool a0_1, .string a0_2, .int .i64 a0_3, .int .i64 a0_4] 25 (0, 0)) (by (with_reducible repeat first | apply bDn | apply bDr | apply bAl); exact BK240.out) hb)
          have n3_ := AsZ.mk (bBl (g := gb251) (o := .cells #[.int .i64 t244, .string t245, .int .i64 t246, .string t247, .slice Ao31 t248.length co31] 31 (0, 0)) (by (with_reducible repeat first | apply bDn | apply bDr | apply bAl); exact BK251.out) hb)
          have n4_ := AsZ.mk (tBl (by repeat (first | (with_reducible first | exact HB.out | apply aBl | apply pBd | apply dBl | refine sBl ?_ GE240.out | refine sBl ?_ GE251.out) | exact HB.out)) hb)
          clear HO250
          clear BK240
          clear BK251
          clear HB
          have HO250 := n0_
          have HO259 := n1_
          have BK240 := n2_
          have BK251 := n3_
          have HB := n4_
          clear n0_ n1_ n2_ n3_ n4_
          (try clear hb)
          (try clear hb2)
          (try clear hk)
          (try clear hi)
          (try clear ho0)
          obtain ⟨Ao36, co36, eo36⟩ := Kd.V_slice HO259.out
          (first | subst eo36 | (injection eo36 with f1_ f2_ f3_; have f4_ := f1_.symm; have f5_ := f3_.symm; clear f1_ f2_ f3_; subst f4_; subst f5_))
          refine hK.out _ _ ⟨(bCe BK240.out 0).trans rfl, (bCe BK240.out 1).trans rfl, (bCe BK240.out 2).trans rfl, (bCe BK240.out 3).trans rfl, (bCe BK240.out 4).trans rfl, (bCe BK251.out 0).trans rfl, (bCe BK251.out 1).trans rfl, (bCe BK251.out 2).trans rfl, (bCe BK251.out 3).trans rfl, (bCe BK251.out 4).trans rfl⟩ (fun hHeld => ?_)
          clear hK K
          refine norm_ (a' := ?_) ?_ ?_
          rotate_left
          · show Act.put _ (some 49) _ = _
            simp only [Act.put, List.setIfInBounds_toArray, List.set_cons_zero, List.set_cons_succ, i64_w, i32_w]
            rfl
          refine one_ (i := 4) (N := some 50) #[true, true, true, true, true, false] rfl rfl (by kernel_rfl) (by decide) (fun K hK => ?_)
          refine goes_ Try.func8 (by kernel_rfl) rfl #[.agg #[.int .i64 a0_0, .bool a0_1, .string a0_2, .int .i64 a0_3, .int .i64 a0_4], .agg #[.int .i64 t253, .string t254, .int .i64 t255, .string t256, .slice Ao36 t257.length co36]] (by rfl) rfl rfl (by (try simp only [List.map_toArray, List.map_cons, List.map_nil]); first | done | rfl | (simp only [List.length_drop, List.length_take]; rfl)) ?_
          with_reducible refine (check_Of.calls kj6 a0_0 a0_1 a0_2 a0_3 a0_4 t253 t254 t255 t256 _ _ t257 t260 _ ?side1 ?side2 A22.out).mono ?_
          (case side1 => repeat (first | exact (Kd.V_reads' HO259.out).2.2 | (with_reducible refine Kd.C_alloc ?_ _) | (with_reducible refine Kd.C_drewN ?_ _) | (with_reducible refine Kd.C_drew ?_)))
          (case side2 => exact (Kd.V_reads' HO259.out).2.1)
          rintro e w37 ⟨rfl, hb⟩
          refine ⟨_, rfl, ?_⟩
          have n0_ := AsZ.mk (Kd.R_below (by (with_reducible repeat (first | apply Kd.R_alloc | apply Kd.R_drewN | apply Kd.R_drew)); exact HO250.out) hb)
          have n1_ := AsZ.mk (Kd.V_below (by (with_reducible repeat (first | apply Kd.V_alloc | apply Kd.V_drewN | apply Kd.V_drew)); exact HO259.out) hb)
          have n2_ := AsZ.mk (bBl (g := gb240) (o := .cells #[.int .i64 a0_0, .bool a0_1, .string a0_2, .int .i64 a0_3, .int .i64 a0_4] 25 (0, 0)) (by (with_reducible repeat first | apply bDn | apply bDr | apply bAl); exact BK240.out) hb)
          have n3_ := AsZ.mk (bBl (g := gb251) (o := .cells #[.int .i64 t244, .string t245, .int .i64 t246, .string t247, .slice Ao31 t248.length co31] 31 (0, 0)) (by (with_reducible repeat first | apply bDn | apply bDr | apply bAl); exact BK251.out) hb)
          have n4_ := AsZ.mk (tBl (by repeat (first | (with_reducible first | exact HB.out | apply aBl | apply pBd | apply dBl | refine sBl ?_ GE240.out | refine sBl ?_ GE251.out) | exact HB.out)) hb)
          clear HO250
          clear HO259
          clear BK240
          clear BK251
          clear HB
          have HO250 := n0_
          have HO259 := n1_
          have BK240 := n2_
          have BK251 := n3_
          have HB := n4_
          clear n0_ n1_ n2_ n3_ n4_
          (try clear hb)
          (try clear hb2)
          (try clear hk)
          (try clear hi)
          refine hK.out _ _ ⟨(bCe BK240.out 0).trans rfl, (bCe BK240.out 1).trans rfl, (bCe BK240.out 2).trans rfl, (bCe BK240.out 3).trans rfl, (bCe BK240.out 4).trans rfl, (bCe BK251.out 0).trans rfl, (bCe BK251.out 1).trans rfl, (bCe BK251.out 2).trans rfl, (bCe BK251.out 3).trans rfl, (bCe BK251.out 4).trans rfl⟩ (fun hHeld => ?_)
          clear hK K
          refine norm_ (a' := ?_) ?_ ?_
          rotate_left
          · show Act.put _ (some 50) _ = _
            simp only [Act.put, List.setIfInBounds_toArray, List.set_cons_zero, List.set_cons_succ, i64_w, i32_w]
            rfl
          refine pure_ (i := 5) (N := some 11) (v := ?_) (a' := ?_) #[true, true, true, true, true, true] rfl rfl (by kernel_rfl) (fun _ _ _ h => h) (Or.inl ⟨by rfl, ?_⟩) ?_ ?_
          rotate_left
          · intro w'
            go_simp
            with_reducible rfl
          rotate_left
          · simp only [Act.put, List.setIfInBounds_toArray, List.set_cons_zero, List.set_cons_succ, i64_w, i32_w]
            rfl
          refine done_ (by kernel_rfl) ?_
          go_upto_region 10 with (fail)
          go_cut [12] (fun v12 wc => ∃ (kq : Nat) (x12_22 : Bool), v12 = .bool x12_22 ∧ AsZ (spencelaw33_CheckHonest.j1 kq a2 t243 t252 t260 x12_22 a0_0 a0_1 a0_2 a0_3 a0_4 = some r) ∧ AsZ (kq ≤ kj6) ∧ AsZ (Kd.R (Kd.int .u8) 5 wc w.heap.size (fun _ => True) (.slice Ao31 t248.length co31) t248) ∧ AsZ (wc.heap[gb240]? = some (.cells #[.int .i64 a0_0, .bool a0_1, .string a0_2, .int .i64 a0_3, .int .i64 a0_4] 25 (0, 0))) ∧ AsZ (wc.heap[gb251]? = some (.cells #[.int .i64 t244, .string t245, .int .i64 t246, .string t247, (.slice Ao31 t248.length co31)] 31 (0, 0))) ∧ AsZ (Below w.heap.size w wc))
          case first =>
            have H := HC23.out
            clear HC23
            by_cases c38 : a0_3 ≥ 0
            · rw [if_pos c38] at H
              have c38b0 : decide (0 ≤ a0_3) = true := decide_eq_true c38
              clear c38
              (first | rw [c38b0] | (simp only [i64_w, i32_w]; rw [c38b0]) | skip)
              by_cases c39 : a0_3 < a0_4
              · rw [if_pos c39] at H
                have c39b0 : decide (a0_3 < a0_4) = true := decide_eq_true c39
                clear c39
                have H' := AsZ.mk H
                clear H
                have hnb40 := NB240_251.out
                have hnc40 := NB251_240.out
                obtain ⟨hcz41_0, hcz41_1, hcz41_2, hcz41_3, hcz41_4⟩ := celN5 BK240.out
                obtain ⟨hfz41_0, hfz41_1, hfz41_2, hfz41_3, hfz41_4⟩ := fzN5 BK240.out
                go_wp2
                go_meet
                case rel => exact ⟨_, (decide (a0_4 ≤ t242)), (by first | rfl | (simp; done) | (simp [*]; done)), H', ⟨by have := HJ6.out; first | omega | exact Nat.le_refl _⟩, ⟨by (with_reducible repeat (first | apply Kd.R_alloc | apply Kd.R_drewN | apply Kd.R_drew)); exact HO250.out⟩, ⟨by (with_reducible repeat first | apply bDn | apply bDr | apply bAl); exact BK240.out⟩, ⟨by (with_reducible repeat first | apply bDn | apply bDr | apply bAl); exact BK251.out⟩, ⟨by repeat (first | (with_reducible first | exact HB.out | apply aBl | apply pBd | apply dBl | refine sBl ?_ GE240.out | refine sBl ?_ GE251.out) | exact HB.out)⟩⟩
              · rw [if_neg c39] at H
                have c39b0 : decide (a0_3 < a0_4) = false := decide_eq_false c39
                clear c39
                have H' := AsZ.mk H
                clear H
                have hnb42 := NB240_251.out
                have hnc42 := NB251_240.out
                obtain ⟨hcz43_0, hcz43_1, hcz43_2, hcz43_3, hcz43_4⟩ := celN5 BK240.out
                obtain ⟨hfz43_0, hfz43_1, hfz43_2, hfz43_3, hfz43_4⟩ := fzN5 BK240.out
                go_wp2
                go_meet
                case rel => exact ⟨_, (false), (by first | rfl | (simp; done) | (simp [*]; done)), H', ⟨by have := HJ6.out; first | omega | exact Nat.le_refl _⟩, ⟨by (with_reducible repeat (first | apply Kd.R_alloc | apply Kd.R_drewN | apply Kd.R_drew)); exact HO250.out⟩, ⟨by (with_reducible repeat first | apply bDn | apply bDr | apply bAl); exact BK240.out⟩, ⟨by (with_reducible repeat first | apply bDn | apply bDr | apply bAl); exact BK251.out⟩, ⟨by repeat (first | (with_reducible first | exact HB.out | apply aBl | apply pBd | apply dBl | refine sBl ?_ GE240.out | refine sBl ?_ GE251.out) | exact HB.out)⟩⟩
            · rw [if_neg c38] at H
              have c38b0 : decide (0 ≤ a0_3) = false := decide_eq_false c38
              clear c38
              (first | rw [c38b0] | (simp only [i64_w, i32_w]; rw [c38b0]) | skip)
              have H' := AsZ.mk H
              clear H
              have hnb44 := NB240_251.out
              have hnc44 := NB251_240.out
              obtain ⟨hcz45_0, hcz45_1, hcz45_2, hcz45_3, hcz45_4⟩ := celN5 BK240.out
              obtain ⟨hfz45_0, hfz45_1, hfz45_2, hfz45_3, hfz45_4⟩ := fzN5 BK240.out
              go_wp2
              go_meet
              case rel => exact ⟨_, (false), (by first | rfl | (simp; done) | (simp [*]; done)), H', ⟨by have := HJ6.out; first | omega | exact Nat.le_refl _⟩, ⟨by (with_reducible repeat (first | apply Kd.R_alloc | apply Kd.R_drewN | apply Kd.R_drew)); exact HO250.out⟩, ⟨by (with_reducible repeat first | apply bDn | apply bDr | apply bAl); exact BK240.out⟩, ⟨by (with_reducible repeat first | apply bDn | apply bDr | apply bAl); exact BK251.out⟩, ⟨by repeat (first | (with_reducible first | exact HB.out | apply aBl | apply pBd | apply dBl | refine sBl ?_ GE240.out | refine sBl ?_ GE251.out) | exact HB.out)⟩⟩
          case rest =>
            clear HC23
            try clear c1
            try clear c2
            try clear p2
            try clear c3
            try clear c4
            try clear c5
            try clear c6
            try clear c7
            try clear c8
            try clear c9
            try clear c11
            try clear c11b0
            try clear c12
            try clear c12b0
            try clear c12b1
            try clear c14
            try clear c14b0
            try clear c17
            try clear c29
            try clear c38
            try clear c38b0
            try clear c39
            try clear c39b0
            try clear c40
            try clear c42
            try clear c44
            try clear hcz10_0
            try clear hcz10_1
            try clear hcz10_2
            try clear hcz10_3
            try clear hcz10_4
            try clear hcz13_0
            try clear hcz13_1
            try clear hcz13_2
            try clear hcz13_3
            try clear hcz13_4
            try clear hcz15_0
            try clear hcz15_1
            try clear hcz15_2
            try clear hcz15_3
            try clear hcz15_4
            try clear hcz16_0
            try clear hcz16_1
            try clear hcz16_2
            try clear hcz16_3
            try clear hcz16_4
            try clear hcz24_0
            try clear hcz24_1
            try clear hcz24_2
            try clear hcz24_3
            try clear hcz24_4
            try clear hcz26_0
            try clear hcz26_1
            try clear hcz26_2
            try clear hcz26_3
            try clear hcz26_4
            try clear hcz30_0
            try clear hcz30_1
            try clear hcz30_2
            try clear hcz30_3
            try clear hcz30_4
            try clear hcz32_0
            try clear hcz32_1
            try clear hcz32_2
            try clear hcz32_3
            try clear hcz32_4
            try clear hcz41_0
            try clear hcz41_1
            try clear hcz41_2
            try clear hcz41_3
            try clear hcz41_4
            try clear hcz43_0
            try clear hcz43_1
            try clear hcz43_2
            try clear hcz43_3
            try clear hcz43_4
            try clear hcz45_0
            try clear hcz45_1
            try clear hcz45_2
            try clear hcz45_3
            try clear hcz45_4
            try clear hfz10_0
            try clear hfz10_1
            try clear hfz10_2
            try clear hfz10_3
            try clear hfz10_4
            try clear hfz13_0
            try clear hfz13_1
            try clear hfz13_2
            try clear hfz13_3
            try clear hfz13_4
            try clear hfz15_0
            try clear hfz15_1
            try clear hfz15_2
            try clear hfz15_3
            try clear hfz15_4
            try clear hfz16_0
            try clear hfz16_1
            try clear hfz16_2
            try clear hfz16_3
            try clear hfz16_4
            try clear hfz24_0
            try clear hfz24_1
            try clear hfz24_2
            try clear hfz24_3
            try clear hfz24_4
            try clear hfz26_0
            try clear hfz26_1
            try clear hfz26_2
            try clear hfz26_3
            try clear hfz26_4
            try clear hfz30_0
            try clear hfz30_1
            try clear hfz30_2
            try clear hfz30_3
            try clear hfz30_4
            try clear hfz32_0
            try clear hfz32_1
            try clear hfz32_2
            try clear hfz32_3
            try clear hfz32_4
            try clear hfz41_0
            try clear hfz41_1
            try clear hfz41_2
            try clear hfz41_3
            try clear hfz41_4
            try clear hfz43_0
            try clear hfz43_1
            try clear hfz43_2
            try clear hfz43_3
            try clear hfz43_4
            try clear hfz45_0
            try clear hfz45_1
            try clear hfz45_2
            try clear hfz45_3
            try clear hfz45_4
            try clear p2
            obtain ⟨kq, x12_22, rfl, HA, HJ22, HO_252004, BK240, BK251, HB⟩ := hcut
            cases kq with
            | zero => exact absurd HA.out (by simp [spencelaw33_CheckHonest.j1])
            | succ kj22 =>
              have H := HA.out
              clear HA
              simp only [spencelaw33_CheckHonest.j1] at H
              have HC46 := AsZ.mk H
              clear H
              go_upto_block 0 with (fail)
              go_cut [13] (fun v13 wc => ∃ (kq : Nat) (x13_45 : Int), v13 = .int .i64 x13_45 ∧ AsZ (spencelaw33_CheckHonest.j3 kq a2 t252 t260 x13_45 a0_0 a0_1 a0_2 a0_3 a0_4 = some r) ∧ AsZ (kq ≤ kj22) ∧ AsZ (Kd.R (Kd.int .u8) 5 wc w.heap.size (fun _ => True) (.slice Ao31 t248.length co31) t248) ∧ AsZ (wc.heap[gb240]? = some (.cells #[.int .i64 a0_0, .bool a0_1, .string a0_2, .int .i64 a0_3, .int .i64 a0_4] 25 (0, 0))) ∧ AsZ (wc.heap[gb251]? = some (.cells #[.int .i64 t244, .string t245, .int .i64 t246, .string t247, (.slice Ao31 t248.length co31)] 31 (0, 0))) ∧ AsZ (Below w.heap.size w wc))
              case first =>
                have H := HC46.out
                clear HC46
                have HC47 := AsZ.mk H
                clear H
                go_upto_region 12 with (fail)
                go_cut [71] (fun v71 wc => ∃ (kq : Nat) (x71_46 : Bool), v71 = .bool x71_46 ∧ AsZ (spencelaw33_CheckHonest.j2 kq a2 t243 t252 t260 x12_22 0 x71_46 a0_0 a0_1 a0_2 a0_3 a0_4 = some r) ∧ AsZ (kq ≤ kj22) ∧ AsZ (Kd.R (Kd.int .u8) 5 wc w.heap.size (fun _ => True) (.slice Ao31 t248.length co31) t248) ∧ AsZ (wc.heap[gb240]? = some (.cells #[.int .i64 a0_0, .bool a0_1, .string a0_2, .int .i64 a0_3, .int .i64 a0_4] 25 (0, 0))) ∧ AsZ (wc.heap[gb251]? = some (.cells #[.int .i64 t244, .string t245, .int .i64 t246, .string t247, (.slice Ao31 t248.length co31)] 31 (0, 0))) ∧ AsZ (Below w.heap.size w wc))
                case first =>
                  have H := HC47.out
                  clear HC47
                  by_cases c48 : a0_1 = true
                  · subst c48
                    have H1 : (spencelaw33_CheckHonest.j2 kj22 a2 t243 t252 t260 x12_22 0 (a0_2.toList == t243.toList) a0_0 true a0_2 a0_3 a0_4) = some r := by rw [if_pos rfl] at H; exact H
                    clear H
                    have H := H1
                    clear H1
                    have H' := AsZ.mk H
                    clear H
                    have hnb49 := NB240_251.out
                    have hnc49 := NB251_240.out
                    obtain ⟨hcz50_0, hcz50_1, hcz50_2, hcz50_3, hcz50_4⟩ := celN5 BK240.out
                    obtain ⟨hfz50_0, hfz50_1, hfz50_2, hfz50_3, hfz50_4⟩ := fzN5 BK240.out
                    go_wp2
                    go_meet
                    case rel => exact ⟨_, ((a0_2.toList == t243.toList)), (by first | rfl | (simp; done) | (simp [*]; done)), H', ⟨by have := HJ6.out; have := HJ22.out; first | omega | exact Nat.le_refl _⟩, ⟨by (with_reducible repeat (first | apply Kd.R_alloc | apply Kd.R_drewN | apply Kd.R_drew)); exact HO_252004.out⟩, ⟨by (with_reducible repeat first | apply bDn | apply bDr | apply bAl); exact BK240.out⟩, ⟨by (with_reducible repeat first | apply bDn | apply bDr | apply bAl); exact BK251.out⟩, ⟨by repeat (first | (with_reducible first | exact HB.out | apply aBl | apply pBd | apply dBl | refine sBl ?_ GE240.out | refine sBl ?_ GE251.out) | exact HB.out)⟩⟩
                  · replace c48 := Bool.eq_false_iff.mpr c48
                    subst c48
                    have H1 : (spencelaw33_CheckHonest.j2 kj22 a2 t243 t252 t260 x12_22 0 false a0_0 false a0_2 a0_3 a0_4) = some r := by rw [if_neg (show ¬ (false = true) by decide)] at H; exact H
                    clear H
                    have H := H1
                    clear H1
                    have H' := AsZ.mk H
                    clear H
                    have hnb51 := NB240_251.out
                    have hnc51 := NB251_240.out
                    obtain ⟨hcz52_0, hcz52_1, hcz52_2, hcz52_3, hcz52_4⟩ := celN5 BK240.out
                    obtain ⟨hfz52_0, hfz52_1, hfz52_2, hfz52_3, hfz52_4⟩ := fzN5 BK240.out
                    go_wp2
                    go_meet
                    case rel => exact ⟨_, (false), (by first | rfl | (simp; done) | (simp [*]; done)), H', ⟨by have := HJ6.out; have := HJ22.out; first | omega | exact Nat.le_refl _⟩, ⟨by (with_reducible repeat (first | apply Kd.R_alloc | apply Kd.R_drewN | apply Kd.R_drew)); exact HO_252004.out⟩, ⟨by (with_reducible repeat first | apply bDn | apply bDr | apply bAl); exact BK240.out⟩, ⟨by (with_reducible repeat first | apply bDn | apply bDr | apply bAl); exact BK251.out⟩, ⟨by repeat (first | (with_reducible first | exact HB.out | apply aBl | apply pBd | apply dBl | refine sBl ?_ GE240.out | refine sBl ?_ GE251.out) | exact HB.out)⟩⟩
                case rest =>
                  clear HC47
                  try clear c1
                  try clear c2
                  try clear p2
                  try clear c3
                  try clear c4
                  try clear c5
                  try clear c6
                  try clear c7
                  try clear c8
                  try clear c9
                  try clear c11
                  try clear c11b0
                  try clear c12
                  try clear c12b0
                  try clear c12b1
                  try clear c14
                  try clear c14b0
                  try clear c17
                  try clear c29
                  try clear c38
                  try clear c38b0
                  try clear c39
                  try clear c39b0
                  try clear c40
                  try clear c42
                  try clear c44
                  try clear c48
                  try clear c49
                  try clear c51
                  try clear hcz10_0
                  try clear hcz10_1
                  try clear hcz10_2
                  try clear hcz10_3
                  try clear hcz10_4
                  try clear hcz13_0
                  try clear hcz13_1
                  try clear hcz13_2
                  try clear hcz13_3
                  try clear hcz13_4
                  try clear hcz15_0
                  try clear hcz15_1
                  try clear hcz15_2
                  try clear hcz15_3
                  try clear hcz15_4
                  try clear hcz16_0
                  try clear hcz16_1
                  try clear hcz16_2
                  try clear hcz16_3
                  try clear hcz16_4
                  try clear hcz24_0
                  try clear hcz24_1
                  try clear hcz24_2
                  try clear hcz24_3
                  try clear hcz24_4
                  try clear hcz26_0
                  try clear hcz26_1
                  try clear hcz26_2
                  try clear hcz26_3
                  try clear hcz26_4
                  try clear hcz30_0
                  try clear hcz30_1
                  try clear hcz30_2
                  try clear hcz30_3
                  try clear hcz30_4
                  try clear hcz32_0
                  try clear hcz32_1
                  try clear hcz32_2
                  try clear hcz32_3
                  try clear hcz32_4
                  try clear hcz41_0
                  try clear hcz41_1
                  try clear hcz41_2
                  try clear hcz41_3
                  try clear hcz41_4
                  try clear hcz43_0
                  try clear hcz43_1
                  try clear hcz43_2
                  try clear hcz43_3
                  try clear hcz43_4
                  try clear hcz45_0
                  try clear hcz45_1
                  try clear hcz45_2
                  try clear hcz45_3
                  try clear hcz45_4
                  try clear hcz50_0
                  try clear hcz50_1
                  try clear hcz50_2
                  try clear hcz50_3
                  try clear hcz50_4
                  try clear hcz52_0
                  try clear hcz52_1
                  try clear hcz52_2
                  try clear hcz52_3
                  try clear hcz52_4
                  try clear hfz10_0
                  try clear hfz10_1
                  try clear hfz10_2
                  try clear hfz10_3
                  try clear hfz10_4
                  try clear hfz13_0
                  try clear hfz13_1
                  try clear hfz13_2
                  try clear hfz13_3
                  try clear hfz13_4
                  try clear hfz15_0
                  try clear hfz15_1
                  try clear hfz15_2
                  try clear hfz15_3
                  try clear hfz15_4
                  try clear hfz16_0
                  try clear hfz16_1
                  try clear hfz16_2
                  try clear hfz16_3
                  try clear hfz16_4
                  try clear hfz24_0
                  try clear hfz24_1
                  try clear hfz24_2
                  try clear hfz24_3
                  try clear hfz24_4
                  try clear hfz26_0
                  try clear hfz26_1
                  try clear hfz26_2
                  try clear hfz26_3
                  try clear hfz26_4
                  try clear hfz30_0
                  try clear hfz30_1
                  try clear hfz30_2
                  try clear hfz30_3
                  try clear hfz30_4
                  try clear hfz32_0
                  try clear hfz32_1
                  try clear hfz32_2
                  try clear hfz32_3
                  try clear hfz32_4
                  try clear hfz41_0
                  try clear hfz41_1
                  try clear hfz41_2
                  try clear hfz41_3
                  try clear hfz41_4
                  try clear hfz43_0
                  try clear hfz43_1
                  try clear hfz43_2
                  try clear hfz43_3
                  try clear hfz43_4
                  try clear hfz45_0
                  try clear hfz45_1
                  try clear hfz45_2
                  try clear hfz45_3
                  try clear hfz45_4
                  try clear hfz50_0
                  try clear hfz50_1
                  try clear hfz50_2
                  try clear hfz50_3
                  try clear hfz50_4
                  try clear hfz52_0
                  try clear hfz52_1
                  try clear hfz52_2
                  try clear hfz52_3
                  try clear hfz52_4
                  try clear p2
                  obtain ⟨kq, x71_46, rfl, HA, HJ46, HO_252004, BK240, BK251, HB⟩ := hcut
                  cases kq with
                  | zero => exact absurd HA.out (by simp [spencelaw33_CheckHonest.j2])
                  | succ kj46 =>
                    have H := HA.out
                    clear HA
                    simp only [spencelaw33_CheckHonest.j2] at H
                    by_cases c53 : x71_46 = true
                    · subst c53
                      have H1 : (spencelaw33_CheckHonest.j3 kj46 a2 t252 t260 2 a0_0 a0_1 a0_2 a0_3 a0_4) = some r := by rw [if_pos rfl] at H; exact H
                      clear H
                      have H := H1
                      clear H1
                      have H' := AsZ.mk H
                      clear H
                      go_wp2
                      go_meet
                      case rel => exact ⟨_, (2), (by first | rfl | (simp; done) | (simp [*]; done)), H', ⟨by have := HJ6.out; have := HJ22.out; have := HJ46.out; first | omega | exact Nat.le_refl _⟩, ⟨by (with_reducible repeat (first | apply Kd.R_alloc | apply Kd.R_drewN | apply Kd.R_drew)); exact HO_252004.out⟩, ⟨by (with_reducible repeat first | apply bDn | apply bDr | apply bAl); exact BK240.out⟩, ⟨by (with_reducible repeat first | apply bDn | apply bDr | apply bAl); exact BK251.out⟩, ⟨by repeat (first | (with_reducible first | exact HB.out | apply aBl | apply pBd | apply dBl | refine sBl ?_ GE240.out | refine sBl ?_ GE251.out) | exact HB.out)⟩⟩
                    · replace c53 := Bool.eq_false_iff.mpr c53
                      subst c53
                      have H1 : (if a0_1 = true then (spencelaw33_CheckHonest.j3 kj46 a2 t252 t260 0 a0_0 a0_1 a0_2 a0_3 a0_4) else (if a0_2.toList = t243.toList then (if x12_22 = true then (spencelaw33_CheckHonest.j3 kj46 a2 t252 t260 0 a0_0 a0_1 a0_2 a0_3 a0_4) else (spencelaw33_CheckHonest.j3 kj46 a2 t252 t260 3 a0_0 a0_1 a0_2 a0_3 a0_4)) else (spencelaw33_CheckHonest.j3 kj46 a2 t252 t260 1 a0_0 a0_1 a0_2 a0_3 a0_4))) = some r := by rw [if_neg (show ¬ (false = true) by decide)] at H; exact H
                      clear H
                      have H := H1
                      clear H1
                      by_cases c54 : a0_1 = true
                      · subst c54
                        have H1 : (spencelaw33_CheckHonest.j3 kj46 a2 t252 t260 0 a0_0 true a0_2 a0_3 a0_4) = some r := by rw [if_pos rfl] at H; exact H
                        clear H
                        have H := H1
                        clear H1
                        have H' := AsZ.mk H
                        clear H
                        have hnb55 := NB240_251.out
                        have hnc55 := NB251_240.out
                        obtain ⟨hcz56_0, hcz56_1, hcz56_2, hcz56_3, hcz56_4⟩ := celN5 BK240.out
                        obtain ⟨hfz56_0, hfz56_1, hfz56_2, hfz56_3, hfz56_4⟩ := fzN5 BK240.out
                        go_wp2
                        go_meet
                        case rel => exact ⟨_, (0), (by first | rfl | (simp; done) | (simp [*]; done)), H', ⟨by have := HJ6.out; have := HJ22.out; have := HJ46.out; first | omega | exact Nat.le_refl _⟩, ⟨by (with_reducible repeat (first | apply Kd.R_alloc | apply Kd.R_drewN | apply Kd.R_drew)); exact HO_252004.out⟩, ⟨by (with_reducible repeat first | apply bDn | apply bDr | apply bAl); exact BK240.out⟩, ⟨by (with_reducible repeat first | apply bDn | apply bDr | apply bAl); exact BK251.out⟩, ⟨by repeat (first | (with_reducible first | exact HB.out | apply aBl | apply pBd | apply dBl | refine sBl ?_ GE240.out | refine sBl ?_ GE251.out) | exact HB.out)⟩⟩
                      · replace c54 := Bool.eq_false_iff.mpr c54
                        subst c54
                        have H1 : (if a0_2.toList = t243.toList then (if x12_22 = true then (spencelaw33_CheckHonest.j3 kj46 a2 t252 t260 0 a0_0 false a0_2 a0_3 a0_4) else (spencelaw33_CheckHonest.j3 kj46 a2 t252 t260 3 a0_0 false a0_2 a0_3 a0_4)) else (spencelaw33_CheckHonest.j3 kj46 a2 t252 t260 1 a0_0 false a0_2 a0_3 a0_4)) = some r := by rw [if_neg (show ¬ (false = true) by decide)] at H; exact H
                        clear H
                        have H := H1
                        clear H1
                        by_cases c57 : a0_2.toList = t243.toList
                        · rw [if_pos c57] at H
                          have c57b0 : (a0_2.toList == t243.toList) = true := beq_iff_eq.mpr c57
                          have c57b1 : (a0_2.toList != t243.toList) = false := bne_eq_false_iff_eq.mpr c57
                          clear c57
                          by_cases c58 : x12_22 = true
                          · subst c58
                            have H1 : (spencelaw33_CheckHonest.j3 kj46 a2 t252 t260 0 a0_0 false a0_2 a0_3 a0_4) = some r := by rw [if_pos rfl] at H; exact H
                            clear H
                            have H := H1
                            clear H1
                            have H' := AsZ.mk H
                            clear H
                            have hnb59 := NB240_251.out
                            have hnc59 := NB251_240.out
                            obtain ⟨hcz60_0, hcz60_1, hcz60_2, hcz60_3, hcz60_4⟩ := celN5 BK240.out
                            obtain ⟨hfz60_0, hfz60_1, hfz60_2, hfz60_3, hfz60_4⟩ := fzN5 BK240.out
                            go_wp2
                            go_meet
                            case rel => exact ⟨_, (0), (by first | rfl | (simp; done) | (simp [*]; done)), H', ⟨by have := HJ6.out; have := HJ22.out; have := HJ46.out; first | omega | exact Nat.le_refl _⟩, ⟨by (with_reducible repeat (first | apply Kd.R_alloc | apply Kd.R_drewN | apply Kd.R_drew)); exact HO_252004.out⟩, ⟨by (with_reducible repeat first | apply bDn | apply bDr | apply bAl); exact BK240.out⟩, ⟨by (with_reducible repeat first | apply bDn | apply bDr | apply bAl); exact BK251.out⟩, ⟨by repeat (first | (with_reducible first | exact HB.out | apply aBl | apply pBd | apply dBl | refine sBl ?_ GE240.out | refine sBl ?_ GE251.out) | exact HB.out)⟩⟩
                          · replace c58 := Bool.eq_false_iff.mpr c58
                            subst c58
                            have H1 : (spencelaw33_CheckHonest.j3 kj46 a2 t252 t260 3 a0_0 false a0_2 a0_3 a0_4) = some r := by rw [if_neg (show ¬ (false = true) by decide)] at H; exact H
                            clear H
                            have H := H1
                            clear H1
                            have H' := AsZ.mk H
                            clear H
                            have hnb61 := NB240_251.out
                            have hnc61 := NB251_240.out
                            obtain ⟨hcz62_0, hcz62_1, hcz62_2, hcz62_3, hcz62_4⟩ := celN5 BK240.out
                            obtain ⟨hfz62_0, hfz62_1, hfz62_2, hfz62_3, hfz62_4⟩ := fzN5 BK240.out
                            go_wp2
                            go_meet
                            case rel => exact ⟨_, (3), (by first | rfl | (simp; done) | (simp [*]; done)), H', ⟨by have := HJ6.out; have := HJ22.out; have := HJ46.out; first | omega | exact Nat.le_refl _⟩, ⟨by (with_reducible repeat (first | apply Kd.R_alloc | apply Kd.R_drewN | apply Kd.R_drew)); exact HO_252004.out⟩, ⟨by (with_reducible repeat first | apply bDn | apply bDr | apply bAl); exact BK240.out⟩, ⟨by (with_reducible repeat first | apply bDn | apply bDr | apply bAl); exact BK251.out⟩, ⟨by repeat (first | (with_reducible first | exact HB.out | apply aBl | apply pBd | apply dBl | refine sBl ?_ GE240.out | refine sBl ?_ GE251.out) | exact HB.out)⟩⟩
                        · rw [if_neg c57] at H
                          have c57b0 : (a0_2.toList == t243.toList) = false := beq_eq_false_iff_ne.mpr c57
                          have c57b1 : (a0_2.toList != t243.toList) = true := bne_iff_ne.mpr c57
                          have H' := AsZ.mk H
                          clear H
                          have hnb63 := NB240_251.out
                          have hnc63 := NB251_240.out
                          obtain ⟨hcz64_0, hcz64_1, hcz64_2, hcz64_3, hcz64_4⟩ := celN5 BK240.out
                          obtain ⟨hfz64_0, hfz64_1, hfz64_2, hfz64_3, hfz64_4⟩ := fzN5 BK240.out
                          go_wp2
                          go_meet
                          case rel => exact ⟨_, (1), (by first | rfl | (simp; done) | (simp [*]; done)), H', ⟨by have := HJ6.out; have := HJ22.out; have := HJ46.out; first | omega | exact Nat.le_refl _⟩, ⟨by (with_reducible repeat (first | apply Kd.R_alloc | apply Kd.R_drewN | apply Kd.R_drew)); exact HO_252004.out⟩, ⟨by (with_reducible repeat first | apply bDn | apply bDr | apply bAl); exact BK240.out⟩, ⟨by (with_reducible repeat first | apply bDn | apply bDr | apply bAl); exact BK251.out⟩, ⟨by repeat (first | (with_reducible first | exact HB.out | apply aBl | apply pBd | apply dBl | refine sBl ?_ GE240.out | refine sBl ?_ GE251.out) | exact HB.out)⟩⟩
              case rest =>
                clear HC46
                try clear c1
                try clear c2
                try clear p2
                try clear c3
                try clear c4
                try clear c5
                try clear c6
                try clear c7
                try clear c8
                try clear c9
                try clear c11
                try clear c11b0
                try clear c12
                try clear c12b0
                try clear c12b1
                try clear c14
                try clear c14b0
                try clear c17
                try clear c29
                try clear c38
                try clear c38b0
                try clear c39
                try clear c39b0
                try clear c40
                try clear c42
                try clear c44
                try clear c48
                try clear c49
                try clear c51
                try clear c53
                try clear c54
                try clear c55
                try clear c57
                try clear c57b0
                try clear c57b1
                try clear c58
                try clear c59
                try clear c61
                try clear c63
                try clear hcz10_0
                try clear hcz10_1
                try clear hcz10_2
                try clear hcz10_3
                try clear hcz10_4
                try clear hcz13_0
                try clear hcz13_1
                try clear hcz13_2
                try clear hcz13_3
                try clear hcz13_4
                try clear hcz15_0
                try clear hcz15_1
                try clear hcz15_2
                try clear hcz15_3
                try clear hcz15_4
                try clear hcz16_0
                try clear hcz16_1
                try clear hcz16_2
                try clear hcz16_3
                try clear hcz16_4
                try clear hcz24_0
                try clear hcz24_1
                try clear hcz24_2
                try clear hcz24_3
                try clear hcz24_4
                try clear hcz26_0
                try clear hcz26_1
                try clear hcz26_2
                try clear hcz26_3
                try clear hcz26_4
                try clear hcz30_0
                try clear hcz30_1
                try clear hcz30_2
                try clear hcz30_3
                try clear hcz30_4
                try clear hcz32_0
                try clear hcz32_1
                try clear hcz32_2
                try clear hcz32_3
                try clear hcz32_4
                try clear hcz41_0
                try clear hcz41_1
                try clear hcz41_2
                try clear hcz41_3
                try clear hcz41_4
                try clear hcz43_0
                try clear hcz43_1
                try clear hcz43_2
                try clear hcz43_3
                try clear hcz43_4
                try clear hcz45_0
                try clear hcz45_1
                try clear hcz45_2
                try clear hcz45_3
                try clear hcz45_4
                try clear hcz50_0
                try clear hcz50_1
                try clear hcz50_2
                try clear hcz50_3
                try clear hcz50_4
                try clear hcz52_0
                try clear hcz52_1
                try clear hcz52_2
                try clear hcz52_3
                try clear hcz52_4
                try clear hcz56_0
                try clear hcz56_1
                try clear hcz56_2
                try clear hcz56_3
                try clear hcz56_4
                try clear hcz60_0
                try clear hcz60_1
                try clear hcz60_2
                try clear hcz60_3
                try clear hcz60_4
                try clear hcz62_0
                try clear hcz62_1
                try clear hcz62_2
                try clear hcz62_3
                try clear hcz62_4
                try clear hcz64_0
                try clear hcz64_1
                try clear hcz64_2
                try clear hcz64_3
                try clear hcz64_4
                try clear hfz10_0
                try clear hfz10_1
                try clear hfz10_2
                try clear hfz10_3
                try clear hfz10_4
                try clear hfz13_0
                try clear hfz13_1
                try clear hfz13_2
                try clear hfz13_3
                try clear hfz13_4
                try clear hfz15_0
                try clear hfz15_1
                try clear hfz15_2
                try clear hfz15_3
                try clear hfz15_4
                try clear hfz16_0
                try clear hfz16_1
                try clear hfz16_2
                try clear hfz16_3
                try clear hfz16_4
                try clear hfz24_0
                try clear hfz24_1
                try clear hfz24_2
                try clear hfz24_3
                try clear hfz24_4
                try clear hfz26_0
                try clear hfz26_1
                try clear hfz26_2
                try clear hfz26_3
                try clear hfz26_4
                try clear hfz30_0
                try clear hfz30_1
                try clear hfz30_2
                try clear hfz30_3
                try clear hfz30_4
                try clear hfz32_0
                try clear hfz32_1
                try clear hfz32_2
                try clear hfz32_3
                try clear hfz32_4
                try clear hfz41_0
                try clear hfz41_1
                try clear hfz41_2
                try clear hfz41_3
                try clear hfz41_4
                try clear hfz43_0
                try clear hfz43_1
                try clear hfz43_2
                try clear hfz43_3
                try clear hfz43_4
                try clear hfz45_0
                try clear hfz45_1
                try clear hfz45_2
                try clear hfz45_3
                try clear hfz45_4
                try clear hfz50_0
                try clear hfz50_1
                try clear hfz50_2
                try clear hfz50_3
                try clear hfz50_4
                try clear hfz52_0
                try clear hfz52_1
                try clear hfz52_2
                try clear hfz52_3
                try clear hfz52_4
                try clear hfz56_0
                try clear hfz56_1
                try clear hfz56_2
                try clear hfz56_3
                try clear hfz56_4
                try clear hfz60_0
                try clear hfz60_1
                try clear hfz60_2
                try clear hfz60_3
                try clear hfz60_4
                try clear hfz62_0
                try clear hfz62_1
                try clear hfz62_2
                try clear hfz62_3
                try clear hfz62_4
                try clear hfz64_0
                try clear hfz64_1
                try clear hfz64_2
                try clear hfz64_3
                try clear hfz64_4
                try clear p2
                obtain ⟨kq, x13_45, rfl, HA, HJ45, HO_252004, BK240, BK251, HB⟩ := hcut
                cases kq with
                | zero => exact absurd HA.out (by simp [spencelaw33_CheckHonest.j3])
                | succ kj45 =>
                  have H := HA.out
                  clear HA
                  simp only [spencelaw33_CheckHonest.j3] at H
                  by_cases c65 : t252 = x13_45
                  · rw [if_pos c65] at H
                    have c65b0 : (t252 == x13_45) = true := beq_iff_eq.mpr c65
                    have c65b1 : (t252 != x13_45) = false := bne_eq_false_iff_eq.mpr c65
                    clear c65
                    by_cases c66 : a2 = 0
                    · rw [if_pos c66] at H
                      have c66b0 : (a2 == 0) = true := beq_iff_eq.mpr c66
                      have c66b1 : (a2 != 0) = false := bne_eq_false_iff_eq.mpr c66
                      clear c66
                      obtain rfl := Option.some.inj H
                      go_wp2
                      go_ret
                      exact ⟨by first | rfl | exact nEm _ | exact eEm _ | (simp [eWn, eWs] <;> rfl) | (simp [*, eWn, eWs] <;> rfl), by repeat (first | (with_reducible first | exact HB.out | apply aBl | apply pBd | apply dBl | refine sBl ?_ GE240.out | refine sBl ?_ GE251.out) | exact HB.out)⟩
                    · rw [if_neg c66] at H
                      have c66b0 : (a2 == 0) = false := beq_eq_false_iff_ne.mpr c66
                      have c66b1 : (a2 != 0) = true := bne_iff_ne.mpr c66
                      by_cases c67 : a0_1 = true
                      · subst c67
                        have H1 : (if a2 = 2 then (some (t260 == t252)) else (if a2 = 3 then (some (t260 == t252)) else (if t252 = 1 then (if a2 = 4 then (some (t260 == t252)) else (if t260 = 3 then (some true) else (some (t260 == 4)))) else (if t260 = 3 then (some true) else (some (t260 == 4)))))) = some r := by rw [if_pos rfl] at H; exact H
                        clear H
                        have H := H1
                        clear H1
                        by_cases c68 : a2 = 2
                        · rw [if_pos c68] at H
                          have c68b0 : (a2 == 2) = true := beq_iff_eq.mpr c68
                          have c68b1 : (a2 != 2) = false := bne_eq_false_iff_eq.mpr c68
                          clear c68
                          obtain rfl := Option.some.inj H
                          have hnb69 := NB240_251.out
                          have hnc69 := NB251_240.out
                          obtain ⟨hcz70_0, hcz70_1, hcz70_2, hcz70_3, hcz70_4⟩ := celN5 BK240.out
                          obtain ⟨hfz70_0, hfz70_1, hfz70_2, hfz70_3, hfz70_4⟩ := fzN5 BK240.out
                          go_wp2
                          go_ret
                          exact ⟨by first | rfl | exact nEm _ | exact eEm _ | (simp [eWn, eWs] <;> rfl) | (simp [*, eWn, eWs] <;> rfl), by repeat (first | (with_reducible first | exact HB.out | apply aBl | apply pBd | apply dBl | refine sBl ?_ GE240.out | refine sBl ?_ GE251.out) | exact HB.out)⟩
                        · rw [if_neg c68] at H
                          have c68b0 : (a2 == 2) = false := beq_eq_false_iff_ne.mpr c68
                          have c68b1 : (a2 != 2) = true := bne_iff_ne.mpr c68
                          by_cases c71 : a2 = 3
                          · rw [if_pos c71] at H
                            have c71b0 : (a2 == 3) = true := beq_iff_eq.mpr c71
                            have c71b1 : (a2 != 3) = false := bne_eq_false_iff_eq.mpr c71
                            clear c71
                            obtain rfl := Option.some.inj H
                            have hnb72 := NB240_251.out
                            have hnc72 := NB251_240.out
                            obtain ⟨hcz73_0, hcz73_1, hcz73_2, hcz73_3, hcz73_4⟩ := celN5 BK240.out
                            obtain ⟨hfz73_0, hfz73_1, hfz73_2, hfz73_3, hfz73_4⟩ := fzN5 BK240.out
                            go_wp2
                            go_ret
                            exact ⟨by first | rfl | exact nEm _ | exact eEm _ | (simp [eWn, eWs] <;> rfl) | (simp [*, eWn, eWs] <;> rfl), by repeat (first | (with_reducible first | exact HB.out | apply aBl | apply pBd | apply dBl | refine sBl ?_ GE240.out | refine sBl ?_ GE251.out) | exact HB.out)⟩
                          · rw [if_neg c71] at H
                            have c71b0 : (a2 == 3) = false := beq_eq_false_iff_ne.mpr c71
                            have c71b1 : (a2 != 3) = true := bne_iff_ne.mpr c71
                            by_cases c74 : t252 = 1
                            · rw [if_pos c74] at H
                              have c74b0 : (t252 == 1) = true := beq_iff_eq.mpr c74
                              have c74b1 : (t252 != 1) = false := bne_eq_false_iff_eq.mpr c74
                              clear c74
                              by_cases c75 : a2 = 4
                              · rw [if_pos c75] at H
                                have c75b0 : (a2 == 4) = true := beq_iff_eq.mpr c75
                                have c75b1 : (a2 != 4) = false := bne_eq_false_iff_eq.mpr c75
                                clear c75
                                obtain rfl := Option.some.inj H
                                have hnb76 := NB240_251.out
                                have hnc76 := NB251_240.out
                                obtain ⟨hcz77_0, hcz77_1, hcz77_2, hcz77_3, hcz77_4⟩ := celN5 BK240.out
                                obtain ⟨hfz77_0, hfz77_1, hfz77_2, hfz77_3, hfz77_4⟩ := fzN5 BK240.out
                                go_wp2
                                go_ret
                                exact ⟨by first | rfl | exact nEm _ | exact eEm _ | (simp [eWn, eWs] <;> rfl) | (simp [*, eWn, eWs] <;> rfl), by repeat (first | (with_reducible first | exact HB.out | apply aBl | apply pBd | apply dBl | refine sBl ?_ GE240.out | refine sBl ?_ GE251.out) | exact HB.out)⟩
                              · rw [if_neg c75] at H
                                have c75b0 : (a2 == 4) = false := beq_eq_false_iff_ne.mpr c75
                                have c75b1 : (a2 != 4) = true := bne_iff_ne.mpr c75
                                by_cases c78 : t260 = 3
                                · rw [if_pos c78] at H
                                  have c78b0 : (t260 == 3) = true := beq_iff_eq.mpr c78
                                  have c78b1 : (t260 != 3) = false := bne_eq_false_iff_eq.mpr c78
                                  clear c78
                                  obtain rfl := Option.some.inj H
                                  have hnb79 := NB240_251.out
                                  have hnc79 := NB251_240.out
                                  obtain ⟨hcz80_0, hcz80_1, hcz80_2, hcz80_3, hcz80_4⟩ := celN5 BK240.out
                                  obtain ⟨hfz80_0, hfz80_1, hfz80_2, hfz80_3, hfz80_4⟩ := fzN5 BK240.out
                                  go_wp2
                                  go_ret
                                  exact ⟨by first | rfl | exact nEm _ | exact eEm _ | (simp [eWn, eWs] <;> rfl) | (simp [*, eWn, eWs] <;> rfl), by repeat (first | (with_reducible first | exact HB.out | apply aBl | apply pBd | apply dBl | refine sBl ?_ GE240.out | refine sBl ?_ GE251.out) | exact HB.out)⟩
                                · rw [if_neg c78] at H
                                  have c78b0 : (t260 == 3) = false := beq_eq_false_iff_ne.mpr c78
                                  have c78b1 : (t260 != 3) = true := bne_iff_ne.mpr c78
                                  obtain rfl := Option.some.inj H
                                  have hnb81 := NB240_251.out
                                  have hnc81 := NB251_240.out
                                  obtain ⟨hcz82_0, hcz82_1, hcz82_2, hcz82_3, hcz82_4⟩ := celN5 BK240.out
                                  obtain ⟨hfz82_0, hfz82_1, hfz82_2, hfz82_3, hfz82_4⟩ := fzN5 BK240.out
                                  go_wp2
                                  go_ret
                                  exact ⟨by first | rfl | exact nEm _ | exact eEm _ | (simp [eWn, eWs] <;> rfl) | (simp [*, eWn, eWs] <;> rfl), by repeat (first | (with_reducible first | exact HB.out | apply aBl | apply pBd | apply dBl | refine sBl ?_ GE240.out | refine sBl ?_ GE251.out) | exact HB.out)⟩
                            · rw [if_neg c74] at H
                              have c74b0 : (t252 == 1) = false := beq_eq_false_iff_ne.mpr c74
                              have c74b1 : (t252 != 1) = true := bne_iff_ne.mpr c74
                              by_cases c83 : t260 = 3
                              · rw [if_pos c83] at H
                                have c83b0 : (t260 == 3) = true := beq_iff_eq.mpr c83
                                have c83b1 : (t260 != 3) = false := bne_eq_false_iff_eq.mpr c83
                                clear c83
                                obtain rfl := Option.some.inj H
                                have hnb84 := NB240_251.out
                                have hnc84 := NB251_240.out
                                obtain ⟨hcz85_0, hcz85_1, hcz85_2, hcz85_3, hcz85_4⟩ := celN5 BK240.out
                                obtain ⟨hfz85_0, hfz85_1, hfz85_2, hfz85_3, hfz85_4⟩ := fzN5 BK240.out
                                go_wp2
                                go_ret
                                exact ⟨by first | rfl | exact nEm _ | exact eEm _ | (simp [eWn, eWs] <;> rfl) | (simp [*, eWn, eWs] <;> rfl), by repeat (first | (with_reducible first | exact HB.out | apply aBl | apply pBd | apply dBl | refine sBl ?_ GE240.out | refine sBl ?_ GE251.out) | exact HB.out)⟩
                              · rw [if_neg c83] at H
                                have c83b0 : (t260 == 3) = false := beq_eq_false_iff_ne.mpr c83
                                have c83b1 : (t260 != 3) = true := bne_iff_ne.mpr c83
                                obtain rfl := Option.some.inj H
                                have hnb86 := NB240_251.out
                                have hnc86 := NB251_240.out
                                obtain ⟨hcz87_0, hcz87_1, hcz87_2, hcz87_3, hcz87_4⟩ := celN5 BK240.out
                                obtain ⟨hfz87_0, hfz87_1, hfz87_2, hfz87_3, hfz87_4⟩ := fzN5 BK240.out
                                go_wp2
                                go_ret
                                exact ⟨by first | rfl | exact nEm _ | exact eEm _ | (simp [eWn, eWs] <;> rfl) | (simp [*, eWn, eWs] <;> rfl), by repeat (first | (with_reducible first | exact HB.out | apply aBl | apply pBd | apply dBl | refine sBl ?_ GE240.out | refine sBl ?_ GE251.out) | exact HB.out)⟩
                      · replace c67 := Bool.eq_false_iff.mpr c67
                        subst c67
                        have H1 : (if t252 = 1 then (if a2 = 2 then (some (t260 == t252)) else (if a2 = 3 then (some (t260 == t252)) else (if a2 = 4 then (some (t260 == t252)) else (if t260 = 3 then (some true) else (some (t260 == 4)))))) else (if t260 = 3 then (some true) else (some (t260 == 4)))) = some r := by rw [if_neg (show ¬ (false = true) by decide)] at H; exact H
                        clear H
                        have H := H1
                        clear H1
                        by_cases c88 : t252 = 1
                        · rw [if_pos c88] at H
                          have c88b0 : (t252 == 1) = true := beq_iff_eq.mpr c88
                          have c88b1 : (t252 != 1) = false := bne_eq_false_iff_eq.mpr c88
                          clear c88
                          by_cases c89 : a2 = 2
                          · rw [if_pos c89] at H
                            have c89b0 : (a2 == 2) = true := beq_iff_eq.mpr c89
                            have c89b1 : (a2 != 2) = false := bne_eq_false_iff_eq.mpr c89
                            clear c89
                            obtain rfl := Option.some.inj H
                            have hnb90 := NB240_251.out
                            have hnc90 := NB251_240.out
                            obtain ⟨hcz91_0, hcz91_1, hcz91_2, hcz91_3, hcz91_4⟩ := celN5 BK240.out
                            obtain ⟨hfz91_0, hfz91_1, hfz91_2, hfz91_3, hfz91_4⟩ := fzN5 BK240.out
                            go_wp2
                            go_ret
                            exact ⟨by first | rfl | exact nEm _ | exact eEm _ | (simp [eWn, eWs] <;> rfl) | (simp [*, eWn, eWs] <;> rfl), by repeat (first | (with_reducible first | exact HB.out | apply aBl | apply pBd | apply dBl | refine sBl ?_ GE240.out | refine sBl ?_ GE251.out) | exact HB.out)⟩
                          · rw [if_neg c89] at H
                            have c89b0 : (a2 == 2) = false := beq_eq_false_iff_ne.mpr c89
                            have c89b1 : (a2 != 2) = true := bne_iff_ne.mpr c89
                            by_cases c92 : a2 = 3
                            · rw [if_pos c92] at H
                              have c92b0 : (a2 == 3) = true := beq_iff_eq.mpr c92
                              have c92b1 : (a2 != 3) = false := bne_eq_false_iff_eq.mpr c92
                              clear c92
                              obtain rfl := Option.some.inj H
                              have hnb93 := NB240_251.out
                              have hnc93 := NB251_240.out
                              obtain ⟨hcz94_0, hcz94_1, hcz94_2, hcz94_3, hcz94_4⟩ := celN5 BK240.out
                              obtain ⟨hfz94_0, hfz94_1, hfz94_2, hfz94_3, hfz94_4⟩ := fzN5 BK240.out
                              go_wp2
                              go_ret
                              exact ⟨by first | rfl | exact nEm _ | exact eEm _ | (simp [eWn, eWs] <;> rfl) | (simp [*, eWn, eWs] <;> rfl), by repeat (first | (with_reducible first | exact HB.out | apply aBl | apply pBd | apply dBl | refine sBl ?_ GE240.out | refine sBl ?_ GE251.out) | exact HB.out)⟩
                            · rw [if_neg c92] at H
                              have c92b0 : (a2 == 3) = false := beq_eq_false_iff_ne.mpr c92
                              have c92b1 : (a2 != 3) = true := bne_iff_ne.mpr c92
                              by_cases c95 : a2 = 4
                              · rw [if_pos c95] at H
                                have c95b0 : (a2 == 4) = true := beq_iff_eq.mpr c95
                                have c95b1 : (a2 != 4) = false := bne_eq_false_iff_eq.mpr c95
                                clear c95
                                obtain rfl := Option.some.inj H
                                have hnb96 := NB240_251.out
                                have hnc96 := NB251_240.out
                                obtain ⟨hcz97_0, hcz97_1, hcz97_2, hcz97_3, hcz97_4⟩ := celN5 BK240.out
                                obtain ⟨hfz97_0, hfz97_1, hfz97_2, hfz97_3, hfz97_4⟩ := fzN5 BK240.out
                                go_wp2
                                go_ret
                                exact ⟨by first | rfl | exact nEm _ | exact eEm _ | (simp [eWn, eWs] <;> rfl) | (simp [*, eWn, eWs] <;> rfl), by repeat (first | (with_reducible first | exact HB.out | apply aBl | apply pBd | apply dBl | refine sBl ?_ GE240.out | refine sBl ?_ GE251.out) | exact HB.out)⟩
                              · rw [if_neg c95] at H
                                have c95b0 : (a2 == 4) = false := beq_eq_false_iff_ne.mpr c95
                                have c95b1 : (a2 != 4) = true := bne_iff_ne.mpr c95
                                by_cases c98 : t260 = 3
                                · rw [if_pos c98] at H
                                  have c98b0 : (t260 == 3) = true := beq_iff_eq.mpr c98
                                  have c98b1 : (t260 != 3) = false := bne_eq_false_iff_eq.mpr c98
                                  clear c98
                                  obtain rfl := Option.some.inj H
                                  have hnb99 := NB240_251.out
                                  have hnc99 := NB251_240.out
                                  obtain ⟨hcz100_0, hcz100_1, hcz100_2, hcz100_3, hcz100_4⟩ := celN5 BK240.out
                                  obtain ⟨hfz100_0, hfz100_1, hfz100_2, hfz100_3, hfz100_4⟩ := fzN5 BK240.out
                                  go_wp2
                                  go_ret
                                  exact ⟨by first | rfl | exact nEm _ | exact eEm _ | (simp [eWn, eWs] <;> rfl) | (simp [*, eWn, eWs] <;> rfl), by repeat (first | (with_reducible first | exact HB.out | apply aBl | apply pBd | apply dBl | refine sBl ?_ GE240.out | refine sBl ?_ GE251.out) | exact HB.out)⟩
                                · rw [if_neg c98] at H
                                  have c98b0 : (t260 == 3) = false := beq_eq_false_iff_ne.mpr c98
                                  have c98b1 : (t260 != 3) = true := bne_iff_ne.mpr c98
                                  obtain rfl := Option.some.inj H
                                  have hnb101 := NB240_251.out
                                  have hnc101 := NB251_240.out
                                  obtain ⟨hcz102_0, hcz102_1, hcz102_2, hcz102_3, hcz102_4⟩ := celN5 BK240.out
                                  obtain ⟨hfz102_0, hfz102_1, hfz102_2, hfz102_3, hfz102_4⟩ := fzN5 BK240.out
                                  go_wp2
                                  go_ret
                                  exact ⟨by first | rfl | exact nEm _ | exact eEm _ | (simp [eWn, eWs] <;> rfl) | (simp [*, eWn, eWs] <;> rfl), by repeat (first | (with_reducible first | exact HB.out | apply aBl | apply pBd | apply dBl | refine sBl ?_ GE240.out | refine sBl ?_ GE251.out) | exact HB.out)⟩
                        · rw [if_neg c88] at H
                          have c88b0 : (t252 == 1) = false := beq_eq_false_iff_ne.mpr c88
                          have c88b1 : (t252 != 1) = true := bne_iff_ne.mpr c88
                          by_cases c103 : t260 = 3
                          · rw [if_pos c103] at H
                            have c103b0 : (t260 == 3) = true := beq_iff_eq.mpr c103
                            have c103b1 : (t260 != 3) = false := bne_eq_false_iff_eq.mpr c103
                            clear c103
                            obtain rfl := Option.some.inj H
                            have hnb104 := NB240_251.out
                            have hnc104 := NB251_240.out
                            obtain ⟨hcz105_0, hcz105_1, hcz105_2, hcz105_3, hcz105_4⟩ := celN5 BK240.out
                            obtain ⟨hfz105_0, hfz105_1, hfz105_2, hfz105_3, hfz105_4⟩ := fzN5 BK240.out
                            go_wp2
                            go_ret
                            exact ⟨by first | rfl | exact nEm _ | exact eEm _ | (simp [eWn, eWs] <;> rfl) | (simp [*, eWn, eWs] <;> rfl), by repeat (first | (with_reducible first | exact HB.out | apply aBl | apply pBd | apply dBl | refine sBl ?_ GE240.out | refine sBl ?_ GE251.out) | exact HB.out)⟩
                          · rw [if_neg c103] at H
                            have c103b0 : (t260 == 3) = false := beq_eq_false_iff_ne.mpr c103
                            have c103b1 : (t260 != 3) = true := bne_iff_ne.mpr c103
                            obtain rfl := Option.some.inj H
                            have hnb106 := NB240_251.out
                            have hnc106 := NB251_240.out
                            obtain ⟨hcz107_0, hcz107_1, hcz107_2, hcz107_3, hcz107_4⟩ := celN5 BK240.out
                            obtain ⟨hfz107_0, hfz107_1, hfz107_2, hfz107_3, hfz107_4⟩ := fzN5 BK240.out
                            go_wp2
                            go_ret
                            exact ⟨by first | rfl | exact nEm _ | exact eEm _ | (simp [eWn, eWs] <;> rfl) | (simp [*, eWn, eWs] <;> rfl), by repeat (first | (with_reducible first | exact HB.out | apply aBl | apply pBd | apply dBl | refine sBl ?_ GE240.out | refine sBl ?_ GE251.out) | exact HB.out)⟩
                  · rw [if_neg c65] at H
                    have c65b0 : (t252 == x13_45) = false := beq_eq_false_iff_ne.mpr c65
                    have c65b1 : (t252 != x13_45) = true := bne_iff_ne.mpr c65
                    obtain rfl := Option.some.inj H
                    go_wp2
                    go_ret
                    exact ⟨by first | rfl | exact nEm _ | exact eEm _ | (simp [eWn, eWs] <;> rfl) | (simp [*, eWn, eWs] <;> rfl), by repeat (first | (with_reducible first | exact HB.out | apply aBl | apply pBd | apply dBl | refine sBl ?_ GE240.out | refine sBl ?_ GE251.out) | exact HB.out)⟩
  · replace c5 := Bool.eq_false_iff.mpr c5
    subst c5
    have H1 : (some false) = some r := by rw [if_neg (show ¬ (false = true) by decide)] at H; exact H
    clear H
    have H := H1
    clear H1
    obtain rfl := Option.some.inj H
    go_enter Try.func3, Try.ntmps3
    go_wp2_with (first | ((with_reducible refine gDs (N := 3) rfl ?_); (try (refine gate_guard (by rfl) ?_; dsimp only)); refine bEv ?hg (N := 3) ?hd (cs := #[.int .i64 a0_0, .bool a0_1, .string a0_2, .int .i64 a0_3, .int .i64 a0_4]) (t := 25) ?hr ?_; (case hd => rfl); (case hg => rfl); (case hr => first | (go_simp; done) | (go_simp; rfl)); intro gb240 hg w108 hbox hb; have n0_ := AsZ.mk (tBl (by repeat (first | (with_reducible first | exact HB.out | apply aBl | apply pBd | apply dBl) | exact HB.out)) hb); have n1_ := AsZ.mk (hbox); have n2_ := AsZ.mk ((by rw [hg]; exact (zBl (by repeat (first | (with_reducible first | exact HB.out | apply aBl | apply pBd | apply dBl) | exact HB.out))) : w.heap.size ≤ gb240)); have n3_ := AsZ.mk ((by rw [hg]; exact (zBl (by repeat (first | (with_reducible first | exact HB.out | apply aBl | apply pBd | apply dBl) | exact HB.out))) : w.heap.size ≤ gb240)); clear HB; have HB := n0_; have BK240 := n1_; have GW240 := n2_; have GE240 := n3_; clear n0_ n1_ n2_ n3_; clear hb hbox hg) | ((with_reducible refine gCa (f := 4) rfl ?_); refine gLl (some 14) rfl rfl Try.func4 (by kernel_rfl) rfl #[] rfl (by (try simp only [List.map_toArray, List.map_cons, List.map_nil]); first | done | rfl | (simp only [List.length_drop, List.length_take]; rfl)) ?_; (with_reducible refine (spencelaw33_awake.calls k  false _ A4.out).mono ?_); rintro e w109 ⟨rfl, hb⟩; refine ⟨_, rfl, ?_⟩; have n0_ := AsZ.mk (bBl (g := gb240) (o := .cells #[.int .i64 a0_0, .bool a0_1, .string a0_2, .int .i64 a0_3, .int .i64 a0_4] 25 (0, 0)) (by (with_reducible repeat first | apply bDn | apply bDr | apply bAl); exact BK240.out) hb); have n1_ := AsZ.mk (tBl (by repeat (first | (with_reducible first | exact HB.out | apply aBl | apply pBd | apply dBl | refine sBl ?_ GE240.out) | exact HB.out)) hb); clear BK240; clear HB; have BK240 := n0_; have HB := n1_; clear n0_ n1_; (try clear hb); (try clear hb2); (try clear hk); (try clear hi)))
    go_ret
    exact ⟨by first | rfl | exact nEm _ | exact eEm _ | (simp [eWn, eWs] <;> rfl) | (simp [*, eWn, eWs] <;> rfl), by repeat (first | (with_reducible first | exact HB.out | apply aBl | apply pBd | apply dBl | refine sBl ?_ GE240.out) | exact HB.out)⟩
/-- THE ONE PURE STATEMENT of spencelaw33_CheckHonest. -/
def spencelaw33_CheckHonest.Pure : Prop := ∀ (a0_0 : Int) (a0_1 : Bool) (a0_2 : ByteArray) (a0_3 : Int) (a0_4 : Int) (a1 : Int) (a2 : Int), (Lit.int .i64 a0_0).wf = true → a0_2.size ≤ 9223372036854775807 → (Lit.int .i64 a0_3).wf = true → (Lit.int .i64 a0_4).wf = true → (Lit.int .i64 a1).wf = true → (Lit.int .i64 a2).wf = true → ∃ k, spencelaw33_CheckHonest.f k a0_0 a0_1 a0_2 a0_3 a0_4 a1 a2 = some true
end Go.Proofs.Ytkmkiheoelakaaa.PAll
namespace Go.Proofs.Ytkmkiheoelakaaa.Pure
open Go.RowKit Go.Proofs.YtkmkiheoelakaaaW.PrintWords Go.Proofs.YtkmkiheoelakaaaW.PrintLast Go.Proofs.YtkmkiheoelakaaaW.PrintMore
theorem Ev.succ {α : Type} {g : Nat → Option α} {r : α} (h : Ev (fun k => g (k + 1)) r) : Ev g r := Ev.step (fun _ => rfl) h
theorem Ev.all {α : Type} {g : Nat → Option α} {r : α} (h : ∀ k, g k = some r) : Ev g r := ⟨0, fun k _ => h k⟩
theorem Ev.pos {α : Type} {g : Nat → Option α} {r : α} (h : ∀ k, g (k + 1) = some r) : Ev g r := ⟨1, fun k hk => by obtain ⟨j, rfl⟩ : ∃ j, k = j + 1 := ⟨k - 1, by omega⟩; exact h j⟩
theorem wrap_id {x : Int} (h : -9223372036854775808 ≤ x ∧ x ≤ 9223372036854775807) : wrap64 x = x := by unfold wrap64; omega
end Go.Proofs.Ytkmkiheoelakaaa.Pure
namespace Go.Proofs.Ytkmkiheoelakaaa.Pure
open Go.RowKit Go.Proofs.YtkmkiheoelakaaaW.PrintWords
/-- the number of digits (bytes as numbers), from n on -/
def fval (n : Int) (l : List Int) : Int := l.foldl (fun n b => 10 * n + (b - 48)) n
def isDig (b : Int) : Bool := decide (48 ≤ b) && decide (b ≤ 57)
theorem isDig_iff (b : Int) : isDig b = true ↔ 48 ≤ b ∧ b ≤ 57 := by simp [isDig]
theorem fval_cons (n b : Int) (l : List Int) : fval n (b :: l) = fval (10 * n + (b - 48)) l := rfl
theorem fval_snoc (n b : Int) (l : List Int) : fval n (l ++ [b]) = 10 * fval n l + (b - 48) := by simp [fval]
theorem fval_ge (l : List Int) : ∀ n : Int, 0 ≤ n → l.all isDig = true → n ≤ fval n l := by
  induction l with
  | nil => intro n _ _; exact Int.le_refl _
  | cons b l ih =>
    intro n hn h
    simp only [List.all_cons, Bool.and_eq_true, isDig_iff] at h
    have := ih (10 * n + (b - 48)) (by omega) h.2
    rw [fval_cons]
    omega
theorem fval_zeros (k : Nat) (l : List Int) : fval 0 (List.replicate k 48 ++ l) = fval 0 l := by
  induction k with
  | zero => rfl
  | succ k ih => rw [List.replicate_succ, List.cons_append, fval_cons]; simpa using ih
/-- digits of a number, the last one first -/
def rdig (u : Nat) : List Int := if u < 10 then [48 + (u : Int)] else (48 + ((u % 10 : Nat) : Int)) :: rdig (u / 10)
decreasing_by omega
def dig (u : Nat) : List Int := (rdig u).reverse
theorem dig_small {u : Nat} (h : u < 10) : dig u = [48 + (u : Int)] := by unfold dig; rw [rdig, if_pos h]; rfl
theorem dig_big {u : Nat} (h : ¬ u < 10) : dig u = dig (u / 10) ++ [48 + ((u % 10 : Nat) : Int)] := by
  unfold dig; rw [rdig, if_neg h, List.reverse_cons]
theorem dig_all (u : Nat) : (dig u).all isDig = true ∧ dig u ≠ [] ∧ fval 0 (dig u) = u := by
  induction u using Nat.strongRecOn with
  | _ u ih =>
    by_cases h : u < 10
    · rw [dig_small h]
      refine ⟨by simp [isDig_iff]; omega, by simp, ?_⟩
      simp only [fval, List.foldl_cons, List.foldl_nil]; omega
    · have := ih (u / 10) (by omega)
      rw [dig_big h]
      refine ⟨by rw [List.all_append, this.1]; simp [isDig_iff]; omega, by simp, ?_⟩
      rw [fval_snoc, this.2.2]
      omega
theorem dig_length (u : Nat) : ∀ k : Nat, u < 10 ^ (k + 1) → (dig u).length ≤ k + 1 := by
  induction u using Nat.strongRecOn with
  | _ u ih =>
    intro k hk
    by_cases h : u < 10
    · rw [dig_small h]; simp
    · rw [dig_big h, List.length_append]
      cases k with
      | zero => simp at hk; omega
      | succ k =>
        have := ih (u / 10) (by omega) k (by rw [Nat.pow_succ] at hk; omega)
        simp only [List.length_singleton]
        omega
/-- digits without noughts ahead are the number's own -/
theorem canon (n : Nat) : ∀ l : List Int, l.length = n → l ≠ [] → l.all isDig = true → (l.head? ≠ some 48 ∨ l.length = 1) → l = dig (fval 0 l).toNat ∧ 0 ≤ fval 0 l ∧ (l.head? ≠ some 48 → 0 < fval 0 l) := by
  induction n with
  | zero => intro l hl h0; exact absurd (List.eq_nil_of_length_eq_zero hl) h0
  | succ n ih =>
    intro l hl h0 hd hh
    obtain ⟨m, b, rfl⟩ : ∃ m b, l = m ++ [b] := ⟨l.dropLast, l.getLast h0, (List.dropLast_concat_getLast h0).symm⟩
    rw [List.all_append, Bool.and_eq_true] at hd
    have hb : 48 ≤ b ∧ b ≤ 57 := by simpa [isDig_iff] using hd.2
    have hml : m.length = n := by simp at hl; omega
    rw [fval_snoc]
    cases m with
    | nil =>
      have hx : fval 0 [] = 0 := rfl
      rw [hx]
      refine ⟨?_, by omega, fun h => by simp at h; omega⟩
      rw [dig_small (by omega)]
      simp; omega
    | cons c m =>
      have hc : (c :: m).head? ≠ some 48 := by
        rcases hh with h | h
        · simpa using h
        · simp at h
      obtain ⟨e1, e2, e3⟩ := ih (c :: m) hml (by simp) hd.1 (.inl hc)
      have e4 := e3 hc
      refine ⟨?_, by omega, fun _ => by omega⟩
      have h10 : ¬ (10 * fval 0 (c :: m) + (b - 48)).toNat < 10 := by omega
      rw [dig_big h10]
      have a1 : (10 * fval 0 (c :: m) + (b - 48)).toNat / 10 = (fval 0 (c :: m)).toNat := by omega
      have a2 : (((10 * fval 0 (c :: m) + (b - 48)).toNat % 10 : Nat) : Int) = b - 48 := by omega
      rw [a1, a2, ← e1]
      congr 2
      omega
/-- a bound by how many digits there are -/
theorem fval_lt (l : List Int) : ∀ n : Int, 0 ≤ n → l.all isDig = true → fval n l < (n + 1) * (10 : Int) ^ l.length := by
  induction l with
  | nil => intro n _ _; simp [fval]; omega
  | cons b l ih =>
    intro n hn h
    simp only [List.all_cons, Bool.and_eq_true, isDig_iff] at h
    have h1 := ih (10 * n + (b - 48)) (by omega) h.2
    rw [fval_cons, List.length_cons, Int.pow_succ]
    have h2 : (10 * n + (b - 48) + 1) * (10 : Int) ^ l.length ≤ (10 * (n + 1)) * (10 : Int) ^ l.length := Int.mul_le_mul_of_nonneg_right (by omega) (Int.le_of_lt (Int.pow_pos (by omega)))
    have h3 : (10 * (n + 1)) * (10 : Int) ^ l.length = (n + 1) * ((10 : Int) ^ l.length * 10) := by
      rw [Int.mul_comm 10 (n + 1), Int.mul_assoc, Int.mul_comm (10 : Int)]
    omega
theorem fval_lo (l : List Int) : ∀ n : Int, 0 ≤ n → l.all isDig = true → n * (10 : Int) ^ l.length ≤ fval n l := by
  induction l with
  | nil => intro n _ _; simp [fval]
  | cons b l ih =>
    intro n hn h
    simp only [List.all_cons, Bool.and_eq_true, isDig_iff] at h
    have h1 := ih (10 * n + (b - 48)) (by omega) h.2
    rw [fval_cons, List.length_cons, Int.pow_succ]
    have h2 : (10 * n) * (10 : Int) ^ l.length ≤ (10 * n + (b - 48)) * (10 : Int) ^ l.length := Int.mul_le_mul_of_nonneg_right (by omega) (Int.le_of_lt (Int.pow_pos (by omega)))
    have h3 : (10 * n) * (10 : Int) ^ l.length = n * ((10 : Int) ^ l.length * 10) := by
      rw [Int.mul_comm 10 n, Int.mul_assoc, Int.mul_comm (10 : Int)]
    omega
/-- less by bytes: less as numbers -/
def lexlt : List Int → List Int → Bool
  | [], [] => false
  | [], _ :: _ => true
  | _ :: _, [] => false
  | a :: x, b :: y => decide (a < b) || (decide (a = b) && lexlt x y)
theorem lex_fval : ∀ (x y : List Int) (n : Int), 0 ≤ n → x.length = y.length → x.all isDig = true → y.all isDig = true → (lexlt x y = true ↔ fval n x < fval n y)
  | [], [], n, _, _, _, _ => by simp [lexlt, fval]
  | a :: x, b :: y, n, hn, hl, hx, hy => by
    simp only [List.all_cons, Bool.and_eq_true, isDig_iff] at hx hy
    have hl' : x.length = y.length := by simpa using hl
    simp only [lexlt, Bool.or_eq_true, Bool.and_eq_true, decide_eq_true_eq, fval_cons]
    rcases Int.lt_trichotomy a b with h | h | h
    · have h1 := fval_lt x (10 * n + (a - 48)) (by omega) hx.2
      have h2 := fval_lo y (10 * n + (b - 48)) (by omega) hy.2
      rw [hl'] at h1
      have h3 : (10 * n + (a - 48) + 1) * (10 : Int) ^ y.length ≤ (10 * n + (b - 48)) * (10 : Int) ^ y.length := Int.mul_le_mul_of_nonneg_right (by omega) (Int.le_of_lt (Int.pow_pos (by omega)))
      exact ⟨fun _ => by omega, fun _ => .inl h⟩
    · subst h
      have := lex_fval x y (10 * n + (a - 48)) (by omega) hl' hx.2 hy.2
      simp [this]
    · have h1 := fval_lt y (10 * n + (b - 48)) (by omega) hy.2
      have h2 := fval_lo x (10 * n + (a - 48)) (by omega) hx.2
      rw [hl'] at h2
      have h3 : (10 * n + (b - 48) + 1) * (10 : Int) ^ y.length ≤ (10 * n + (a - 48)) * (10 : Int) ^ y.length := Int.mul_le_mul_of_nonneg_right (by omega) (Int.le_of_lt (Int.pow_pos (by omega)))
      exact ⟨fun h' => by omega, fun h' => by omega⟩
  | [], _ :: _, _, _, hl, _, _ => by simp at hl
  | _ :: _, [], _, _, hl, _, _ => by simp at hl
end Go.Proofs.Ytkmkiheoelakaaa.Pure
namespace Go.Proofs.Ytkmkiheoelakaaa.Pure
open Go.RowKit Go.Proofs.YtkmkiheoelakaaaW.PrintWords
def isB (b : Int) : Prop := 0 ≤ b ∧ b < 256
theorem bytesOf_inj {s t : ByteArray} : bytesOf s = bytesOf t ↔ s = t := by
  constructor
  · intro h
    have h2 : s.data.toList = t.data.toList := by
      unfold bytesOf at h
      exact (List.map_inj_right (fun a b h => by have := Int.ofNat_inj.1 h; exact UInt8.toNat_inj.1 this)).1 h
    have h3 : s.data = t.data := Array.toList_inj.1 h2
    cases s; cases t; simp_all
  · intro h; rw [h]
theorem toList_bytes (s t : ByteArray) : s.toList = t.toList ↔ bytesOf s = bytesOf t := by
  rw [ByteArray.toList_eq, ByteArray.toList_eq, bytesOf_inj]
  constructor
  · intro h; have := Array.toList_inj.1 h; cases s; cases t; simp_all
  · intro h; rw [h]
theorem toList_beq (s t : ByteArray) : (s.toList == t.toList) = decide (bytesOf s = bytesOf t) := by
  by_cases h : bytesOf s = bytesOf t
  · rw [decide_eq_true h, beq_iff_eq, toList_bytes]; exact h
  · rw [decide_eq_false h, beq_eq_false_iff_ne, ne_eq, toList_bytes]; exact h
theorem bytesOf_append (s t : ByteArray) : bytesOf (s ++ t) = bytesOf s ++ bytesOf t := by
  unfold bytesOf; rw [ByteArray.data_append, Array.toList_append, List.map_append]
theorem bytesOf_isB (s : ByteArray) : ∀ b ∈ bytesOf s, isB b := by
  intro b hb
  unfold bytesOf at hb
  obtain ⟨x, _, rfl⟩ := List.mem_map.1 hb
  have := x.toNat_lt
  unfold isB; omega
theorem bytesOf_str (l : List Int) (h : ∀ b ∈ l, isB b) : bytesOf (strOfNums l) = l := by
  unfold bytesOf
  rw [strOfNums_data, List.map_map]
  conv => rhs; rw [← List.map_id l]
  apply List.map_congr_left
  intro b hb
  have := h b hb
  unfold isB at this
  simp
  omega
theorem str_append (l m : List Int) : strOfNums l ++ strOfNums m = strOfNums (l ++ m) := by
  unfold strOfNums
  apply ByteArray.ext
  rw [ByteArray.data_append]
  simp
theorem str_bytes (s : ByteArray) : strOfNums (bytesOf s) = s := by
  rw [← bytesOf_inj]
  exact bytesOf_str _ (bytesOf_isB s)
theorem size_str (l : List Int) : (strOfNums l).size = l.length := strOfNums_size l
theorem bytesOf_extract (s : ByteArray) (a b : Nat) : bytesOf (s.extract a b) = ((bytesOf s).take b).drop a := by
  unfold bytesOf
  rw [ByteArray.data_extract, Array.toList_extract, List.extract_eq_take_drop]
  rw [← List.map_take, ← List.map_drop]
  congr 1
  by_cases h : a ≤ b
  · rw [List.take_drop, Nat.add_sub_cancel' h]
  · have e : b - a = 0 := by omega
    rw [e, List.take_zero, List.drop_of_length_le (by rw [List.length_take]; omega)]
theorem bytesOf_eq_nil (s : ByteArray) : bytesOf s = [] ↔ s.size = 0 := by
  rw [← bytesOf_length]
  exact ⟨fun h => by rw [h]; rfl, fun h => List.eq_nil_of_length_eq_zero h⟩
theorem toList_nil (s : ByteArray) : s.toList = ([] : List UInt8) ↔ bytesOf s = [] := by
  rw [ByteArray.toList_eq]
  unfold bytesOf
  simp
end Go.Proofs.Ytkmkiheoelakaaa.Pure
namespace Go.Proofs.Ytkmkiheoelakaaa.Pure
open Go.RowKit Go.Proofs.Ytkmkiheoelakaaa.PAll Go.Proofs.YtkmkiheoelakaaaW.PrintWords Go.Proofs.YtkmkiheoelakaaaW.PrintLast Go.Proofs.YtkmkiheoelakaaaW.PrintMore
theorem bytes_drop (s : ByteArray) (i : Int) (h0 : 0 ≤ i) (h1 : i < s.size) : (bytesOf s).drop i.toNat = bt s i :: (bytesOf s).drop (i + 1).toNat := by
  have hl : i.toNat < (bytesOf s).length := by rw [bytesOf_length]; omega
  have e : (i + 1).toNat = i.toNat + 1 := by omega
  rw [List.drop_eq_getElem_cons hl, e, ← rd_bytesOf]
  simp [rd, hl]
theorem bytes_take (s : ByteArray) (i : Int) (h0 : 0 ≤ i) (h1 : i < s.size) : (bytesOf s).take (i + 1).toNat = (bytesOf s).take i.toNat ++ [bt s i] := by
  have hl : i.toNat < (bytesOf s).length := by rw [bytesOf_length]; omega
  have e : (i + 1).toNat = i.toNat + 1 := by omega
  rw [e, List.take_succ_eq_append_getElem hl, ← rd_bytesOf]
  simp [rd, hl]
theorem ext_str (s : ByteArray) (a b : Nat) : s.extract a b = strOfNums (((bytesOf s).take b).drop a) := by
  rw [← bytesOf_extract, str_bytes]
theorem take_size (s : ByteArray) : (bytesOf s).take s.size = bytesOf s := List.take_of_length_le (by rw [bytesOf_length]; omega)
def i8s (l : List UInt8) : List Int := l.map fun b => (b.toNat : Int)
theorem bytesOf_i8 (s : ByteArray) : bytesOf s = i8s s.toList := by rw [ByteArray.toList_eq]; rfl
end Go.Proofs.Ytkmkiheoelakaaa.Pure
namespace Go.Proofs.Ytkmkiheoelakaaa.Pure
open Go.RowKit Go.Proofs.Ytkmkiheoelakaaa.PAll Go.Proofs.YtkmkiheoelakaaaW.PrintWords Go.Proofs.YtkmkiheoelakaaaW.PrintLast Go.Proofs.YtkmkiheoelakaaaW.PrintMore
theorem u64_mod (x : Int) : IntKind.u64.wrap x = x % 18446744073709551616 := by
  unfold IntKind.wrap; simp [IntKind.signed, IntKind.bits]
theorem u64_id {x : Int} (h : 0 ≤ x ∧ x < 18446744073709551616) : IntKind.u64.wrap x = x := by rw [u64_mod]; omega
/-- a number's text -/
def ptext (n : Int) : List Int := if n < 0 then 45 :: dig n.natAbs else dig n.toNat
theorem dig_isB (u : Nat) : ∀ b ∈ dig u, isB b := by
  intro b hb
  have := List.all_eq_true.1 (dig_all u).1 b hb
  rw [isDig_iff] at this
  unfold isB; omega
theorem dig_len (u : Nat) (h : u < 18446744073709551616) : (dig u).length ≤ 20 := dig_length u 19 (by omega)
theorem rdig_len (u : Nat) (h : u < 18446744073709551616) : (rdig u).length ≤ 20 := by have := dig_len u h; unfold dig at this; simpa using this
theorem pdigit (u : Nat) : (IntKind.u64.wrap (48 + Int.tmod u 10)) % 256 = 48 + ((u % 10 : Nat) : Int) := by
  have h : Int.tmod (u : Int) 10 = ((u % 10 : Nat) : Int) := by rw [Int.tmod_eq_emod_of_nonneg (by omega)]; omega
  rw [h, u64_id (by omega)]; omega
theorem pdiv (u : Nat) (h : u < 18446744073709551616) : IntKind.u64.wrap (Int.tdiv u 10) = ((u / 10 : Nat) : Int) := by
  have e : Int.tdiv (u : Int) 10 = ((u / 10 : Nat) : Int) := by rw [Int.tdiv_eq_ediv_of_nonneg (by omega)]; omega
  rw [e, u64_id (by omega)]
theorem digits_loop (u : Nat) : u < 18446744073709551616 → ∀ acc : List Int, (acc ++ rdig u).length ≤ 40 →
    Ev (fun k => r1dig.l0 k (u : Int) (strOfNums ((48 + ((u % 10 : Nat) : Int)) :: acc))) (strOfNums (dig u ++ acc)) := by
  induction u using Nat.strongRecOn with
  | _ u ih =>
    intro hu acc hb
    by_cases h : u < 10
    · refine Ev.pos (fun k => ?_)
      simp only [r1dig.l0]
      rw [if_neg (by omega), dig_small h]
      have : ((u % 10 : Nat) : Int) = u := by omega
      rw [this]; rfl
    · have hr : rdig u = (48 + ((u % 10 : Nat) : Int)) :: rdig (u / 10) := by rw [rdig, if_neg h]
      rw [hr] at hb
      obtain ⟨K, hK⟩ := ih (u / 10) (by omega) (by omega) ((48 + ((u % 10 : Nat) : Int)) :: acc) (by simp at hb ⊢; omega)
      refine ⟨K + 1, fun k hk => ?_⟩
      obtain ⟨k, rfl⟩ : ∃ j, k = j + 1 := ⟨k - 1, by omega⟩
      have hk2 := hK k (by omega)
      dsimp only at hk2
      simp only [r1dig.l0, pdiv u hu, pdigit, Option.bind_some, size_str]
      rw [if_pos (by omega), if_pos (by simp at hb ⊢; omega), str_append]
      rw [dig_big h, List.append_assoc]
      exact hk2
theorem digits_ev (u : Nat) (hu : u < 18446744073709551616) : Ev (fun k => r1dig.f k (u : Int)) (strOfNums (dig u)) := by
  have hr := rdig_len u hu
  have := digits_loop u hu [] (by simp; omega)
  simp only [r1dig.f, pdigit]
  simpa using this
theorem ref_print_ev (n : Int) (h : -9223372036854775808 ≤ n ∧ n ≤ 9223372036854775807) : Ev (fun k => r1Prt.f k n) (strOfNums (ptext n)) := by
  unfold ptext
  by_cases h0 : n < 0
  · have e0 : wrap64 (-(wrap64 (n + 1))) = -(n + 1) := by rw [wrap_id (x := n + 1) (by omega), wrap_id (by omega)]
    have e1 : IntKind.u64.wrap (IntKind.u64.wrap (-(n + 1)) + 1) = (n.natAbs : Int) := by rw [u64_mod, u64_mod]; omega
    have hl := dig_len n.natAbs (by omega)
    obtain ⟨K, hK⟩ := digits_ev n.natAbs (by omega)
    refine ⟨K, fun k hk => ?_⟩
    have hk2 := hK k hk
    dsimp only at hk2
    simp only [r1Prt.f, e0, e1]
    rw [if_pos h0, if_pos h0, hk2]
    simp only [Option.bind_some, size_str]
    rw [if_pos (by omega)]
    have e : (⟨#[45]⟩ : ByteArray) = strOfNums [45] := by decide
    rw [e, str_append]; rfl
  · have e1 : IntKind.u64.wrap n = (n.toNat : Int) := by rw [u64_mod]; omega
    obtain ⟨K, hK⟩ := digits_ev n.toNat (by omega)
    refine ⟨K, fun k hk => ?_⟩
    have hk2 := hK k hk
    dsimp only at hk2
    simp only [r1Prt.f, e1]
    rw [if_neg h0, if_neg h0, hk2]
    rfl
end Go.Proofs.Ytkmkiheoelakaaa.Pure
namespace Go.Proofs.Ytkmkiheoelakaaa.Pure
open Go.RowKit Go.Proofs.Ytkmkiheoelakaaa.PAll Go.Proofs.YtkmkiheoelakaaaW.PrintWords Go.Proofs.YtkmkiheoelakaaaW.PrintLast Go.Proofs.YtkmkiheoelakaaaW.PrintMore
def mayV (a v : Int) : Bool := decide (0 ≤ a ∧ a ≤ 15 ∧ 0 ≤ v ∧ v ≤ 1000000)
def lenV (a v : Int) : Int := if mayV a v then (53 * a + 29 * v) % 160 else 0
theorem ref_len_v (a v : Int) : spenceref24_Length.f a v = some (if mayV a v then lenV a v else -1) := by
  unfold spenceref24_Length.f
  by_cases h : mayV a v = true
  · have h2 := of_decide_eq_true h
    rw [if_pos h, if_neg (by omega), if_neg (by omega), if_neg (by omega), if_neg (by omega), lenV, if_pos h]
    rw [wrap_id (x := a * 53) (by omega), wrap_id (x := v * 29) (by omega), wrap_id (by omega), Int.tmod_eq_emod_of_nonneg (by omega), Int.mul_comm a, Int.mul_comm v]
  · rw [if_neg h]
    have h2 : ¬ (0 ≤ a ∧ a ≤ 15 ∧ 0 ≤ v ∧ v ≤ 1000000) := fun x => h (decide_eq_true x)
    by_cases c1 : a < 0
    · rw [if_pos c1]
    rw [if_neg c1]
    by_cases c2 : a > 15
    · rw [if_pos c2]
    rw [if_neg c2]
    by_cases c3 : v < 0
    · rw [if_pos c3]
    rw [if_neg c3, if_pos (by omega)]
theorem lenV_range (a v : Int) : 0 ≤ lenV a v ∧ lenV a v < 160 := by unfold lenV; split <;> omega
def tagV (a v : Int) : List Int := if mayV a v then (118 :: dig a.toNat) ++ (45 :: dig v.toNat) else []
theorem tag_parts (p q : List Int) : ((((⟨#[118]⟩ : ByteArray) ++ strOfNums p) ++ (⟨#[45]⟩ : ByteArray)) ++ strOfNums q) = strOfNums ((118 :: p) ++ (45 :: q)) := by
  have e1 : (⟨#[118]⟩ : ByteArray) = strOfNums [118] := by decide
  have e2 : (⟨#[45]⟩ : ByteArray) = strOfNums [45] := by decide
  rw [e1, e2, str_append, str_append, str_append]
  simp
theorem ptext_dig (a : Int) (h : 0 ≤ a) : ptext a = dig a.toNat := by unfold ptext; rw [if_neg (by omega)]
theorem ref_tag_v (a v : Int) : Ev (fun k => spenceref24_Tag.f k a v) (strOfNums (tagV a v)) := by
  unfold spenceref24_Tag.f tagV
  rw [ref_len_v]
  simp only [Option.bind_some]
  by_cases h : mayV a v = true
  · have hl := lenV_range a v
    simp only [h, if_true, show ¬ lenV a v < 0 by omega, if_false]
    have h := of_decide_eq_true h
    have l1 := dig_len a.toNat (by omega)
    have l2 := dig_len v.toNat (by omega)
    have p1 := ref_print_ev a (by omega)
    have p2 := ref_print_ev v (by omega)
    rw [ptext_dig _ (by omega)] at p1 p2
    refine Ev.bind p1 ?_
    simp only [size_str, show 1 + (dig a.toNat).length ≤ 9223372036854775807 by omega, show 1 + (dig a.toNat).length + 1 ≤ 9223372036854775807 by omega, if_true]
    refine Ev.bind p2 ?_
    simp only [size_str, show 1 + (dig a.toNat).length + 1 + (dig v.toNat).length ≤ 9223372036854775807 by omega, if_true]
    rw [tag_parts]
    exact Ev.now _
  · simp only [h]; exact Ev.now _
theorem tagV_isB (a v : Int) : ∀ b ∈ tagV a v, isB b := by
  intro b hb
  unfold tagV at hb
  split at hb
  · simp only [List.cons_append, List.mem_cons, List.mem_append] at hb
    rcases hb with h | h | h | h
    · unfold isB; omega
    · exact dig_isB _ b h
    · unfold isB; omega
    · exact dig_isB _ b h
  · cases hb
theorem tagV_nil (a v : Int) : tagV a v = [] ↔ mayV a v = false := by
  unfold tagV
  by_cases h : mayV a v = true
  · rw [if_pos h]; simp [h]
  · rw [if_neg h]; simp [h]
end Go.Proofs.Ytkmkiheoelakaaa.Pure
namespace Go.Proofs.Ytkmkiheoelakaaa.Pure
open Go.RowKit Go.Proofs.Ytkmkiheoelakaaa.PAll Go.Proofs.YtkmkiheoelakaaaW.PrintWords Go.Proofs.YtkmkiheoelakaaaW.PrintLast Go.Proofs.YtkmkiheoelakaaaW.PrintMore
def byteV (a v i : Int) : Int := if 0 ≤ i ∧ i < lenV a v then (7 * a + 13 * v + i + i * i / 3) % 256 else 0
theorem ref_byte_v (a v i : Int) : spenceref24_Byte.f a v i = some (byteV a v i) := by
  unfold spenceref24_Byte.f byteV
  have hl := lenV_range a v
  rw [ref_len_v]
  simp only [Option.bind_some]
  by_cases h0 : i < 0
  · rw [if_pos h0, if_neg (by omega)]
  rw [if_neg h0]
  by_cases hm : mayV a v = true
  · rw [if_pos hm]
    by_cases h1 : i ≥ lenV a v
    · rw [if_pos h1, if_neg (by omega)]
    · rw [if_neg h1, if_pos (by omega)]
      have hm := of_decide_eq_true hm
      have hsq : 0 ≤ i * i ∧ i * i ≤ 160 * 160 := ⟨Int.mul_nonneg (by omega) (by omega), by have := Int.mul_le_mul (show i ≤ 160 by omega) (show i ≤ 160 by omega) (by omega) (by omega); omega⟩
      rw [Int.mul_comm a 7, Int.mul_comm v 13, wrap_id (x := 7 * a) (by omega), wrap_id (x := 13 * v) (by omega), wrap_id (x := 7 * a + 13 * v) (by omega), wrap_id (x := i * i) (by omega), Int.tdiv_eq_ediv_of_nonneg hsq.1, wrap_id (x := i * i / 3) (by omega), wrap_id (x := 7 * a + 13 * v + i) (by omega), wrap_id (by omega), Int.tmod_eq_emod_of_nonneg (by omega)]
      congr 1; omega
  · rw [if_neg hm, if_pos (by omega), if_neg (by unfold lenV; rw [if_neg hm]; omega)]
def rightS (p q : Int) : Bool := decide (0 ≤ p ∧ p < q ∧ q ≤ 4611686018427387903)
theorem ref_right_v (p q : Int) : spenceref04_Right.f p q = some (rightS p q) := by
  unfold spenceref04_Right.f rightS
  by_cases h1 : p ≥ 0
  · rw [if_pos h1]
    by_cases h2 : q > p
    · rw [if_pos h2]; have : 0 ≤ p := h1
      have h3 : p < q := h2
      simp [h3, this]
    · rw [if_neg h2]; have h3 : ¬ p < q := h2
      simp [h3]
  · rw [if_neg h1]; have : ¬ 0 ≤ p := h1
    simp [this]
/-- the bytes from i on, d of them -/
def bytesV (a v : Int) : Nat → Int → List Int
  | 0, _ => []
  | d + 1, i => byteV a v i :: bytesV a v d (i + 1)
theorem bytesV_len (a v : Int) : ∀ d i, (bytesV a v d i).length = d := by
  intro d
  induction d with
  | zero => intro i; rfl
  | succ d ih => intro i; rw [bytesV, List.length_cons, ih]
/-- what a span has in common with the version -/
def cutV (a v p q : Int) : Int × Int := if rightS p q && rightS (max p 0) (min q (lenV a v)) then (p, min q (lenV a v)) else (0, 0)
def bodyV (a v p q : Int) : List Int := bytesV a v ((cutV a v p q).2 - (cutV a v p q).1).toNat (cutV a v p q).1
theorem cutV_range (a v p q : Int) : 0 ≤ (cutV a v p q).1 ∧ (cutV a v p q).1 ≤ (cutV a v p q).2 ∧ (cutV a v p q).2 ≤ 160 := by
  have hl := lenV_range a v
  unfold cutV
  by_cases h : (rightS p q && rightS (max p 0) (min q (lenV a v))) = true
  · rw [if_pos h]
    rw [Bool.and_eq_true] at h
    have h1 := of_decide_eq_true h.1
    have h2 := of_decide_eq_true h.2
    dsimp only; omega
  · rw [if_neg h]; dsimp only; omega
theorem ref_body_loop (a v p q : Int) (d : Nat) : ∀ (i : Int) (out : List Int), 0 ≤ i → (lenV a v - i).toNat = d → i ≤ lenV a v → out.length ≤ 1000 - d → d ≤ 160 →
    Ev (fun k => spenceref24_Body.l0 k a v out i p q) (out ++ ((List.range d).map fun (j : Nat) => i + (j : Int)).flatMap fun i => if rightS p q ∧ p ≤ i ∧ i < q then [byteV a v i] else []) := by
  induction d with
  | zero =>
    intro i out h0 hd hi _ _
    refine Ev.pos (fun k => ?_)
    simp only [spenceref24_Body.l0, ref_len_v, Option.bind_some]
    have : ¬ i < (if mayV a v = true then lenV a v else -1) := by split <;> omega
    rw [if_neg this]; simp
  | succ d ih =>
    intro i out h0 hd hi ho hd2
    have hm : mayV a v = true := by
      cases hm : mayV a v
      · have : lenV a v = 0 := by unfold lenV; rw [hm]; rfl
        omega
      · rfl
    have hr : ((List.range (d + 1)).map fun (j : Nat) => i + (j : Int)) = i :: ((List.range d).map fun (j : Nat) => i + 1 + (j : Int)) := by
      rw [List.range_succ_eq_map, List.map_cons, List.map_map]
      congr 1
      · omega
      · apply List.map_congr_left; intro j _; simp only [Function.comp_apply]; omega
    rw [hr, List.flatMap_cons, ← List.append_assoc]
    have hl := lenV_range a v
    have hlt : i < (if mayV a v = true then lenV a v else -1) := by rw [if_pos hm]; omega
    have hw : wrap64 (i + 1) = i + 1 := wrap_id (by omega)
    by_cases hc : rightS p q = true ∧ p ≤ i ∧ i < q
    · rw [if_pos hc]
      refine Ev.step (fun k => ?_) (ih (i + 1) (out ++ [byteV a v i]) (by omega) (by omega) (by omega) (by rw [List.length_append, List.length_singleton]; omega) (by omega))
      simp only [spenceref24_Body.l0, ref_len_v, Option.bind_some, ref_right_v, ref_byte_v, hw]
      rw [if_pos hlt, if_pos hc.1, if_pos (by omega), if_pos hc.2.2, if_pos (by omega)]
    · rw [if_neg hc, List.append_nil]
      refine Ev.step (fun k => ?_) (ih (i + 1) out (by omega) (by omega) (by omega) (by omega) (by omega))
      simp only [spenceref24_Body.l0, ref_len_v, Option.bind_some, ref_right_v, ref_byte_v, hw]
      rw [if_pos hlt]
      by_cases c1 : rightS p q = true
      · rw [if_pos c1]
        by_cases c2 : i ≥ p
        · rw [if_pos c2, if_neg (fun c3 => hc ⟨c1, c2, c3⟩)]
        · rw [if_neg c2]
      · rw [if_neg c1]
theorem pick_bytes (a v p q : Int) (hr : rightS p q = true) (d : Nat) : ∀ i : Int, 0 ≤ i →
    (((List.range d).map fun (j : Nat) => i + (j : Int)).flatMap fun i => if rightS p q ∧ p ≤ i ∧ i < q then [byteV a v i] else []) = bytesV a v (min q (i + d) - max p i).toNat (max p i) := by
  induction d with
  | zero =>
    intro i h0
    have : (min q (i + (0 : Nat)) - max p i).toNat = 0 := by omega
    rw [this]; rfl
  | succ d ih =>
    intro i h0
    have hrg : ((List.range (d + 1)).map fun (j : Nat) => i + (j : Int)) = i :: ((List.range d).map fun (j : Nat) => i + 1 + (j : Int)) := by
      rw [List.range_succ_eq_map, List.map_cons, List.map_map]
      congr 1
      · omega
      · apply List.map_congr_left; intro j _; simp only [Function.comp_apply]; omega
    rw [hrg, List.flatMap_cons, ih (i + 1) (by omega)]
    have e : i + 1 + (d : Int) = i + ((d + 1 : Nat) : Int) := by omega
    rw [e]
    have hr' := of_decide_eq_true hr
    by_cases h1 : p ≤ i
    · by_cases h2 : i < q
      · rw [if_pos ⟨hr, h1, h2⟩]
        have e1 : max p i = i := by omega
        have e2 : max p (i + 1) = i + 1 := by omega
        rw [e1, e2]
        have e3 : (min q (i + ((d + 1 : Nat) : Int)) - i).toNat = (min q (i + ((d + 1 : Nat) : Int)) - (i + 1)).toNat + 1 := by omega
        rw [e3, bytesV]; rfl
      · rw [if_neg (fun h => h2 h.2.2), List.nil_append]
        have e3 : (min q (i + ((d + 1 : Nat) : Int)) - max p i).toNat = 0 := by omega
        have e4 : (min q (i + ((d + 1 : Nat) : Int)) - max p (i + 1)).toNat = 0 := by omega
        rw [e3, e4]; rfl
    · rw [if_neg (fun h => h1 h.2.1), List.nil_append]
      have e1 : max p i = p := by omega
      have e2 : max p (i + 1) = p := by omega
      rw [e1, e2]
theorem ref_body_v (a v p q : Int) : Ev (fun k => spenceref24_Body.f k a v p q) (bodyV a v p q) := by
  have hl := lenV_range a v
  have := ref_body_loop a v p q (lenV a v - 0).toNat 0 [] (by omega) rfl (by omega) (by simp) (by omega)
  rw [List.nil_append] at this
  have e : (((List.range (lenV a v - 0).toNat).map fun (j : Nat) => (0 : Int) + (j : Int)).flatMap fun i => if rightS p q ∧ p ≤ i ∧ i < q then [byteV a v i] else []) = bodyV a v p q := by
    unfold bodyV cutV
    by_cases hr : rightS p q = true
    · rw [pick_bytes a v p q hr _ 0 (by omega)]
      have hr' := of_decide_eq_true hr
      have e1 : max p 0 = p := by omega
      have e2 : min q (0 + (((lenV a v - 0).toNat : Nat) : Int)) = min q (lenV a v) := by omega
      rw [hr, Bool.true_and, e1, e2]
      by_cases h2 : rightS p (min q (lenV a v)) = true
      · rw [if_pos h2]
      · rw [if_neg h2]
        have : ¬ p < min q (lenV a v) := fun h => h2 (decide_eq_true ⟨by omega, h, by omega⟩)
        have e3 : (min q (lenV a v) - p).toNat = 0 := by omega
        rw [e3]; rfl
    · have hr' : rightS p q = false := by simpa using hr
      rw [hr', Bool.false_and, if_neg (by decide)]
      have : ∀ l : List Int, (l.flatMap fun i => if false = true ∧ p ≤ i ∧ i < q then [byteV a v i] else []) = [] := by
        intro l; induction l with
        | nil => rfl
        | cons x l ih => rw [List.flatMap_cons, ih, if_neg (by simp)]; rfl
      rw [this]; rfl
  rw [e] at this
  exact this
theorem bodyV_len (a v p q : Int) : (bodyV a v p q).length ≤ 160 := by
  have := cutV_range a v p q
  unfold bodyV; rw [bytesV_len]; omega
end Go.Proofs.Ytkmkiheoelakaaa.Pure
namespace Go.Proofs.Ytkmkiheoelakaaa.Pure
open Go.RowKit Go.Proofs.Ytkmkiheoelakaaa.PAll Go.Proofs.YtkmkiheoelakaaaW.PrintWords Go.Proofs.YtkmkiheoelakaaaW.PrintLast Go.Proofs.YtkmkiheoelakaaaW.PrintMore
def unitT : List Int := [98, 121, 116, 101, 115, 32]
def crText (p q n : Int) : List Int := unitT ++ (ptext p ++ [45] ++ ptext (q - 1)) ++ [47] ++ ptext n
def crNone (n : Int) : List Int := unitT ++ [42, 47] ++ ptext n
theorem unit_str : (⟨#[98, 121, 116, 101, 115, 32]⟩ : ByteArray) = strOfNums unitT := by decide
theorem dash_str : (⟨#[45]⟩ : ByteArray) = strOfNums [45] := by decide
theorem slash_str : (⟨#[47]⟩ : ByteArray) = strOfNums [47] := by decide
theorem none_str : (⟨#[98, 121, 116, 101, 115, 32, 42, 47]⟩ : ByteArray) = strOfNums (unitT ++ [42, 47]) := by decide
theorem ptext_len (n : Int) (h : 0 ≤ n ∧ n ≤ 9223372036854775807) : (ptext n).length ≤ 20 := by
  rw [ptext_dig n h.1]; exact dig_len _ (by omega)
def replyV (a : Int) (head : Bool) (m : List Int) (p q v : Int) : Int × ByteArray × Int × ByteArray × List Int :=
  if tagV a v = [] then (404, strOfNums [], 0, strOfNums [], [])
  else if head then (if m = tagV a v then (304, strOfNums (tagV a v), 0, strOfNums [], []) else (200, strOfNums (tagV a v), lenV a v, strOfNums [], []))
  else if m = tagV a v then (if rightS p q = true ∧ q ≤ lenV a v then (206, strOfNums (tagV a v), lenV a v, strOfNums (crText p q (lenV a v)), bodyV a v p q) else (416, strOfNums (tagV a v), 0, strOfNums (crNone (lenV a v)), []))
  else (412, strOfNums (tagV a v), 0, strOfNums [], [])
end Go.Proofs.Ytkmkiheoelakaaa.Pure
namespace Go.Proofs.Ytkmkiheoelakaaa.Pure
open Go.RowKit Go.Proofs.Ytkmkiheoelakaaa.PAll Go.Proofs.YtkmkiheoelakaaaW.PrintWords Go.Proofs.YtkmkiheoelakaaaW.PrintLast Go.Proofs.YtkmkiheoelakaaaW.PrintMore
theorem ref_cr_right (p q n : Int) (hr : rightS p q = true) (hq : q ≤ n) (hn : n ≤ 160) : Ev (fun k => r4RC.f k true p q n) true := by
  have hr' := of_decide_eq_true hr
  unfold r4RC.f
  simp only [show ¬ n < -1 by omega, if_false]
  rw [decide_eq_false (by omega)]
  refine Ev.pos (fun k => ?_)
  simp only [r4RC.j0, ref_right_v, Option.bind_some, hr]
  rw [if_neg (by decide), if_pos trivial, if_pos trivial, if_neg (by omega), decide_eq_true hq]
theorem ref_cr_v (p q n : Int) (hr : rightS p q = true) (hq : q ≤ n) (hn : n ≤ 160) : Ev (fun k => r4PC.f k true p q n) (strOfNums (crText p q n)) := by
  have hr' := of_decide_eq_true hr
  have l1 := ptext_len p (by omega)
  have l2 := ptext_len (q - 1) (by omega)
  have l3 := ptext_len n (by omega)
  refine Ev.bind (ref_cr_right p q n hr hq hn) ?_
  simp only [if_true]
  refine Ev.bind (ref_print_ev p (by omega)) ?_
  rw [wrap_id (x := q - 1) (by omega)]
  simp only [size_str, show 6 + (ptext p).length ≤ 9223372036854775807 by omega, show 6 + (ptext p).length + 1 ≤ 9223372036854775807 by omega, if_true]
  refine Ev.bind (ref_print_ev (q - 1) (by omega)) ?_
  simp only [size_str, show 6 + (ptext p).length + 1 + (ptext (q - 1)).length ≤ 9223372036854775807 by omega, show 6 + (ptext p).length + 1 + (ptext (q - 1)).length + 1 ≤ 9223372036854775807 by omega, if_true, show ¬ n < 0 by omega, if_false]
  refine Ev.bind (ref_print_ev n (by omega)) ?_
  simp only [size_str, show 6 + (ptext p).length + 1 + (ptext (q - 1)).length + 1 + (ptext n).length ≤ 9223372036854775807 by omega, if_true]
  rw [unit_str, dash_str, slash_str, str_append, str_append, str_append, str_append, str_append]
  have : unitT ++ ptext p ++ [45] ++ ptext (q - 1) ++ [47] ++ ptext n = crText p q n := by unfold crText; simp
  rw [this]; exact Ev.now _
theorem ref_reply_v (a : Int) (head : Bool) (s : ByteArray) (p q v : Int) : Ev (fun k => spenceref24_Reply.f k a head s p q v) (replyV a head (bytesOf s) p q v) := by
  have hl := lenV_range a v
  have e1 : s.toList = (strOfNums (tagV a v)).toList ↔ bytesOf s = tagV a v := by rw [toList_bytes, bytesOf_str _ (tagV_isB a v)]
  refine Ev.bind (ref_tag_v a v) ?_
  unfold replyV
  simp only [ref_len_v, Option.bind_some]
  by_cases hm : ¬ mayV a v = true
  · have h0 : tagV a v = [] := (tagV_nil a v).2 (by simpa using hm)
    simp only [hm, Bool.false_eq_true, if_false, show (-1 : Int) < 0 by decide, if_true]
    rw [if_pos h0]; exact Ev.now _
  have hm : mayV a v = true := Decidable.not_not.1 hm
  have h0 : ¬ tagV a v = [] := fun h => by rw [tagV_nil, hm] at h; cases h
  rw [if_neg h0]
  simp only [hm, if_true, show ¬ lenV a v < 0 by omega, if_false]
  cases head with
  | true =>
    simp only [if_true]
    refine Ev.pos (fun k => ?_)
    simp only [spenceref24_Reply.j0]
    by_cases h1 : bytesOf s = tagV a v
    · rw [e1.2 h1, if_pos (by simp), if_pos h1]; rfl
    · have h1' : (s.toList == (strOfNums (tagV a v)).toList) = false := beq_eq_false_iff_ne.2 (fun x => h1 (e1.1 x))
      rw [h1', if_neg (by decide), if_pos trivial, if_neg h1]; rfl
  | false =>
    simp only [Bool.false_eq_true, if_false]
    refine Ev.succ ?_
    simp only [spenceref24_Reply.j0, Bool.false_eq_true, if_false]
    by_cases h1 : bytesOf s = tagV a v
    · have h1' := e1.2 h1
      simp only [h1', if_true]; rw [if_pos h1]
      simp only [ref_right_v, Option.bind_some]
      have hno : ¬ (rightS p q = true ∧ q ≤ lenV a v) → Ev (fun k => spenceref24_Reply.j1 k v (strOfNums (tagV a v)) (lenV a v) true a false s p q) (416, strOfNums (tagV a v), 0, strOfNums (crNone (lenV a v)), []) := by
        intro hn
        have l3 := ptext_len (lenV a v) (by omega)
        refine Ev.succ ?_
        simp only [spenceref24_Reply.j1, if_true]
        refine Ev.bind (ref_print_ev (lenV a v) (by omega)) ?_
        simp only [size_str, show 8 + (ptext (lenV a v)).length ≤ 9223372036854775807 by omega, if_true]
        rw [none_str, str_append]; exact Ev.now _
      by_cases h2 : rightS p q = true
      · simp only [h2, if_true]
        by_cases h3 : q > lenV a v
        · rw [decide_eq_true h3, if_neg (fun h => by omega)]
          exact hno (fun h => by omega)
        · rw [decide_eq_false h3]
          refine Ev.succ ?_
          simp only [spenceref24_Reply.j1, Bool.false_eq_true, if_false]
          refine Ev.bind (ref_cr_v p q (lenV a v) h2 (by omega) (by omega)) ?_
          refine Ev.bind (ref_body_v a v p q) ?_
          have : (True ∧ q ≤ lenV a v) := ⟨trivial, by omega⟩
          rw [if_pos this]; exact Ev.now _
      · simp only [h2, Bool.false_eq_true, if_false]
        rw [if_neg (fun h => h.1)]
        exact hno (fun h => h2 h.1)
    · have h1' : ¬ s.toList = (strOfNums (tagV a v)).toList := fun x => h1 (e1.1 x)
      simp only [h1', if_false]; rw [if_neg h1]; exact Ev.now _
end Go.Proofs.Ytkmkiheoelakaaa.Pure
namespace Go.Proofs.Ytkmkiheoelakaaa.Pure
open Go.RowKit Go.Proofs.Ytkmkiheoelakaaa.Xw Go.Proofs.Ytkmkiheoelakaaa.PAll Go.Proofs.YtkmkiheoelakaaaW.PrintWords Go.Proofs.YtkmkiheoelakaaaW.PrintLast Go.Proofs.YtkmkiheoelakaaaW.PrintMore
/-- cut at the first byte b -/
def cutOf (b : Int) : List Int → List Int × List Int × Bool
  | [] => ([], [], false)
  | x :: l => if x = b then ([], l, true) else (x :: (cutOf b l).1, (cutOf b l).2.1, (cutOf b l).2.2)
theorem cutOf_no (b : Int) (l : List Int) (h : (cutOf b l).2.2 = false) : (cutOf b l).1 = l ∧ (cutOf b l).2.1 = [] ∧ b ∉ l := by
  induction l with
  | nil => simp [cutOf]
  | cons x l ih =>
    unfold cutOf at h ⊢
    by_cases e : x = b
    · rw [if_pos e] at h; cases h
    · rw [if_neg e] at h ⊢
      have := ih h
      refine ⟨?_, this.2.1, ?_⟩
      · dsimp only; rw [this.1]
      · intro hm; rcases List.mem_cons.1 hm with h1 | h1
        · exact e h1.symm
        · exact this.2.2 h1
theorem cutOf_yes (b : Int) (l : List Int) (h : (cutOf b l).2.2 = true) : l = (cutOf b l).1 ++ b :: (cutOf b l).2.1 ∧ b ∉ (cutOf b l).1 := by
  induction l with
  | nil => simp [cutOf] at h
  | cons x l ih =>
    unfold cutOf at h ⊢
    by_cases e : x = b
    · rw [if_pos e]; subst e; simp
    · rw [if_neg e] at h ⊢
      have := ih h
      refine ⟨?_, ?_⟩
      · dsimp only; rw [List.cons_append, ← this.1]
      · intro hm; rcases List.mem_cons.1 hm with h1 | h1
        · exact e h1.symm
        · exact this.2 h1
theorem cutOf_mk (b : Int) (p q : List Int) (h : b ∉ p) : cutOf b (p ++ b :: q) = (p, q, true) := by
  induction p with
  | nil => simp [cutOf]
  | cons x p ih =>
    have h1 : ¬ x = b := fun e => h (by rw [e]; exact List.mem_cons_self)
    have h2 : b ∉ p := fun e => h (List.mem_cons_of_mem _ e)
    rw [List.cons_append, cutOf, if_neg h1, ih h2]
theorem cutOf_none (b : Int) (p : List Int) (h : b ∉ p) : cutOf b p = (p, [], false) := by
  induction p with
  | nil => simp [cutOf]
  | cons x p ih =>
    have h1 : ¬ x = b := fun e => h (by rw [e]; exact List.mem_cons_self)
    have h2 : b ∉ p := fun e => h (List.mem_cons_of_mem _ e)
    rw [cutOf, if_neg h1, ih h2]
theorem idx_i8 (l : List UInt8) (b : Int) (h : isB b) : Lib.indexByte l b.toNat.toUInt8 = if (cutOf b (i8s l)).2.2 then ((cutOf b (i8s l)).1.length : Int) else -1 := by
  induction l with
  | nil => simp [Lib.indexByte, i8s, cutOf]
  | cons x l ih =>
    unfold isB at h
    have hx : (x == b.toNat.toUInt8) = decide ((x.toNat : Int) = b) := by
      rw [Bool.eq_iff_iff, beq_iff_eq, decide_eq_true_iff]
      constructor
      · intro e; rw [e]; simp; omega
      · intro e; apply UInt8.toNat_inj.1; simp; omega
    unfold Lib.indexByte
    rw [hx, ih]
    have e3 : i8s (x :: l) = (x.toNat : Int) :: i8s l := rfl
    rw [e3, cutOf]
    by_cases e : (x.toNat : Int) = b
    · rw [if_pos e, decide_eq_true e]; rfl
    · rw [if_neg e, decide_eq_false e]
      dsimp only
      rw [if_neg (by decide)]
      by_cases hc : (cutOf b (i8s l)).2.2 = true
      · rw [if_pos hc, if_pos hc, if_neg (by simp), List.length_cons]; omega
      · rw [if_neg hc, if_neg hc]; rfl
theorem cut_eq (s : ByteArray) (b : Int) (hb : isB b) (hs : s.size ≤ 9223372036854775806) : text_Cut.f s b = some (strOfNums (cutOf b (bytesOf s)).1, strOfNums (cutOf b (bytesOf s)).2.1, (cutOf b (bytesOf s)).2.2) := by
  unfold text_Cut.f strings_IndexByte.f idxb
  rw [idx_i8 _ _ hb]
  have e0 : i8s s.data.toList = bytesOf s := rfl
  rw [e0]
  simp only [Option.bind_some]
  cases hc : (cutOf b (bytesOf s)).2.2
  · obtain ⟨h1, h2, -⟩ := cutOf_no b _ hc
    rw [if_neg (by decide : ¬ false = true), if_pos (by decide), h1, h2, str_bytes]; rfl
  · obtain ⟨h1, -⟩ := cutOf_yes b _ hc
    have hl := congrArg List.length h1
    rw [bytesOf_length, List.length_append, List.length_cons] at hl
    rw [if_pos rfl, if_neg (by omega), if_pos (by omega), if_pos (by omega), wrap_id (by omega), if_pos (by omega), if_pos (by omega), ext_str, ext_str, take_size]
    generalize (cutOf b (bytesOf s)).1 = p at h1 hl ⊢
    generalize (cutOf b (bytesOf s)).2.1 = q at h1 hl ⊢
    rw [h1]
    congr 3
    · rw [List.drop_zero, Int.toNat_natCast, List.take_left' rfl]
    · congr 1
      have e1 : ((p.length : Int) + 1).toNat = p.length + 1 := by omega
      have e2 : p.length + 1 - p.length = 1 := by omega
      rw [e1, List.drop_append, List.drop_of_length_le (by omega), List.nil_append, e2]; rfl
end Go.Proofs.Ytkmkiheoelakaaa.Pure
namespace Go.Proofs.Ytkmkiheoelakaaa.Pure
open Go.RowKit Go.Proofs.Ytkmkiheoelakaaa.Xw Go.Proofs.Ytkmkiheoelakaaa.PAll Go.Proofs.YtkmkiheoelakaaaW.PrintWords Go.Proofs.YtkmkiheoelakaaaW.PrintLast Go.Proofs.YtkmkiheoelakaaaW.PrintMore
theorem lowI_isB (b : Int) (h : isB b) : isB (lowI b) := by unfold isB lowI at *; split <;> omega
theorem lower_eq (s : ByteArray) (hs : s.size ≤ 9223372036854775807) : text_Lower.f s = some (strOfNums ((bytesOf s).map lowI)) := by unfold text_Lower.f; rw [if_pos hs]
theorem fold_eq (s t : ByteArray) (hs : s.size ≤ 9223372036854775807) (ht : t.size ≤ 9223372036854775807) : text_Fold.f s t = some ((strOfNums ((bytesOf s).map lowI)).toList == (strOfNums ((bytesOf t).map lowI)).toList) := by
  unfold text_Fold.f
  rw [lower_eq s hs, lower_eq t ht]; rfl
end Go.Proofs.Ytkmkiheoelakaaa.Pure
namespace Go.Proofs.Ytkmkiheoelakaaa.Pure
open Go.RowKit Go.Proofs.Ytkmkiheoelakaaa.Xw Go.Proofs.Ytkmkiheoelakaaa.PAll Go.Proofs.YtkmkiheoelakaaaW.PrintWords Go.Proofs.YtkmkiheoelakaaaW.PrintLast Go.Proofs.YtkmkiheoelakaaaW.PrintMore
theorem ref_cut_loop (s : ByteArray) (b : Int) (hs : s.size ≤ 9223372036854775807) (d : Nat) : ∀ i : Int, 0 ≤ i → i ≤ s.size → (s.size : Int) - i = d → b ∉ (bytesOf s).take i.toNat →
    Ev (fun k => r1Cut.l0 k s b i) (strOfNums (cutOf b (bytesOf s)).1, strOfNums (cutOf b (bytesOf s)).2.1, (cutOf b (bytesOf s)).2.2) := by
  induction d with
  | zero =>
    intro i h0 h1 hd hn
    refine Ev.pos (fun k => ?_)
    simp only [r1Cut.l0]
    rw [List.take_of_length_le (by rw [bytesOf_length]; omega)] at hn
    rw [if_neg (by omega), cutOf_none b _ hn, str_bytes]; rfl
  | succ d ih =>
    intro i h0 h1 hd hn
    have hi : i < s.size := by omega
    have hdr := bytes_drop s i h0 hi
    by_cases hb : bt s i = b
    · refine Ev.pos (fun k => ?_)
      have he : bytesOf s = (bytesOf s).take i.toNat ++ b :: (bytesOf s).drop (i + 1).toNat := by
        conv => lhs; rw [← List.take_append_drop i.toNat (bytesOf s), hdr, hb]
      have hc := cutOf_mk b _ ((bytesOf s).drop (i + 1).toNat) hn
      rw [← he] at hc
      simp only [r1Cut.l0]
      rw [if_pos hi, if_pos h0, if_pos hb, if_pos h1, wrap_id (by omega), if_pos (by omega), if_pos (by omega), ext_str, ext_str, take_size, hc]
      rfl
    · refine Ev.step (fun k => ?_) (ih (i + 1) (by omega) (by omega) (by omega) ?_)
      · simp only [r1Cut.l0]
        rw [if_pos hi, if_pos h0, if_neg hb, wrap_id (by omega)]
      · rw [bytes_take s i h0 hi, List.mem_append]
        rintro (h | h)
        · exact hn h
        · exact hb (List.mem_singleton.1 h).symm
theorem ref_cut_ev (s : ByteArray) (b : Int) (hs : s.size ≤ 9223372036854775807) : Ev (fun k => r1Cut.f k s b) (strOfNums (cutOf b (bytesOf s)).1, strOfNums (cutOf b (bytesOf s)).2.1, (cutOf b (bytesOf s)).2.2) :=
  ref_cut_loop s b hs s.size 0 (by omega) (by omega) (by omega) (by simp)
theorem ref_lower_loop (s : ByteArray) (hs : s.size ≤ 9223372036854775806) (d : Nat) : ∀ (i : Int), 0 ≤ i → i ≤ s.size → (s.size : Int) - i = d →
    Ev (fun k => r1Low.l0 k s (strOfNums (((bytesOf s).take i.toNat).map lowI)) i) (strOfNums ((bytesOf s).map lowI)) := by
  induction d with
  | zero =>
    intro i h0 h1 hd
    refine Ev.pos (fun k => ?_)
    simp only [r1Low.l0]
    rw [if_neg (by omega), List.take_of_length_le (by rw [bytesOf_length]; omega)]
  | succ d ih =>
    intro i h0 h1 hd
    have hi : i < s.size := by omega
    have hb := bt_range s i
    have hlen : (strOfNums (((bytesOf s).take i.toNat).map lowI)).size = i.toNat := by
      rw [size_str, List.length_map, List.length_take, bytesOf_length]; omega
    have hadd : ∀ y, y = lowI (bt s i) → strOfNums (((bytesOf s).take i.toNat).map lowI) ++ strOfNums [y] = strOfNums (((bytesOf s).take (i + 1).toNat).map lowI) := by
      intro y hy
      rw [str_append, bytes_take s i h0 hi, List.map_append, hy]; rfl
    have hs1 : ∀ y : Int, (strOfNums [y]).size = 1 := fun y => size_str [y]
    refine Ev.step (fun k => ?_) (ih (i + 1) (by omega) (by omega) (by omega))
    simp only [r1Low.l0, Option.bind_some, hlen, hs1]
    rw [if_pos hi, if_pos h0, wrap_id (by omega)]
    by_cases c1 : bt s i ≥ 65
    · rw [if_pos c1]
      by_cases c2 : bt s i ≤ 90
      · rw [if_pos c2, if_pos (by omega), hadd _ (by unfold lowI; rw [if_pos ⟨c1, c2⟩]; omega)]
      · rw [if_neg c2, if_pos (by omega), hadd _ (by unfold lowI; rw [if_neg (by omega)])]
    · rw [if_neg c1, if_pos (by omega), hadd _ (by unfold lowI; rw [if_neg (by omega)])]
theorem ref_lower_ev (s : ByteArray) (hs : s.size ≤ 9223372036854775806) : Ev (fun k => r1Low.f k s) (strOfNums ((bytesOf s).map lowI)) := by
  have := ref_lower_loop s hs s.size 0 (by omega) (by omega) (by omega)
  rw [Int.toNat_zero, List.take_zero] at this
  exact this
end Go.Proofs.Ytkmkiheoelakaaa.Pure
