/- The law OriginDoes: for every input the call returns true, and each argument reads behind the call as it read before. No condition. (The row, and the plain law ahead of it.) -/
import Derived.Test.YtpphnjmppkbpbaaKOriginDoes5
import Derived.Test.YtpphnjmppkbpbaaKOriginDoes3
import Derived.Test.YtpphnjmppkbpbaaRows
import Derived.Test.YtpphnjmppkbpbaaKOriginDoes1
import Derived.WalkKit
import Derived.ProofKit
import Derived.OpenShut
import Derived.ShutString
import Derived.ChangeOld
import Derived.Below
import Derived.SizedLaws
namespace Go.Proofs.Ytpphnjmppkbpbaa.Org
open Go Go.RowKit Go.Proofs Go.Proofs.Ytpphnjmppkbpbaa.Xw Go.Proofs.Ytpphnjmppkbpbaa.PAll Go.Proofs.Ytpphnjmppkbpbaa.Ag Go.Proofs.Ytpphnjmppkbpbaa.Pure Go.Proofs.YtpphnjmppkbpbaaW.PrintWords Go.Proofs.YtpphnjmppkbpbaaW.PrintLast Go.Proofs.YtpphnjmppkbpbaaW.PrintMore
attribute [local go_sem] Oper.semAt_some status_run
set_option linter.unusedSimpArgs false
set_option linter.unusedVariables false
set_option maxHeartbeats 16000000 in
set_option maxRecDepth 100000 in
theorem does_law (A : Option Addr) (c : Nat) (l : List DK) (ob : Int) (w : World) (hC : kD.C w A l.length l) (hc : l.length ≤ c) :
    Calls Try.prog 3 #[.slice A l.length c, .int .i64 ob] w fun e w' => e = .returned (.bool true) ∧ Below w.heap.size w w' := by
  have hu34 := Try.underlying34
  have CAw := AsZ.mk (awake_calls w)
  replace hC := AsZ.mk hC
  by_cases g1 : (l.length : Int) > 80
  · have d1 : decide ((l.length : Int) > 80) = true := decide_eq_true g1
    have d1' : decide (80 < (l.length : Int)) = true := decide_eq_true g1
    replace g1 := AsZ.mk g1
    go_enter Try.func3, Try.ntmps3
    go_wp2_with (go_at_call 5; refine CAw.out.mono ?_; rintro e X1 ⟨rfl, hb1⟩; replace hb1 := AsZ.mk hb1)
    go_ret
    exact ⟨rfl, hb1.out⟩
  have d1 : decide ((l.length : Int) > 80) = false := decide_eq_false g1
  have d1' : decide (80 < (l.length : Int)) = false := decide_eq_false g1
  have hl80 := AsZ.mk (show l.length ≤ 80 by omega)
  replace g1 := AsZ.mk g1
  go_enter Try.func3, Try.ntmps3
  go_wp2_with (first
    | (go_at_call 5; refine CAw.out.mono ?_; rintro e X1 ⟨rfl, hb1⟩; replace hb1 := AsZ.mk hb1)
    | (go_at_call 6; refine (new_calls _).mono ?_; rintro e X2 ⟨rfl, hO, hb⟩; have hb2 := AsZ.mk (tBl hb1.out hb); have hO2 := AsZ.mk (hO.lower hb1.out.size); have hg2 := AsZ.mk (hO2.out.lt rfl); clear hO hb))
  have hI0 := AsZ.mk (Inv.start hb2.out hO2.out hg2.out)
  generalize X2.heap.size = nv at hI0 ⊢
  generalize X1.heap.size = g at hI0 ⊢
  go_loopg [7, 8, 26] l.length (fun gg v7 v8 v26 wr => ∃ (m : Nat) (P : Nat → Prop) (V : Nat → Int) (F : List Int) (As : List AK), v26 = .int .i64 m ∧ m ≤ l.length ∧ l.length - m ≤ gg ∧ AsZ (Inv w nv g m P V F As V F As v7 v8 wr))
  case atStart => exact ⟨0, _, vz, [], [], rfl, by omega, by omega, hI0⟩
  case round =>
    clear hI0 hb1 hb2 hO2 hg2
    obtain ⟨m, P, V, F, As, rfl, hml, hgg, hI⟩ := hrel
    have hl80p := hl80.out
    by_cases hlt : m < l.length
    · have hltz : (m : Int) < (l.length : Int) := by omega
      obtain ⟨ad, rfl, hx0, hx1, hx2, hx3, hx4, hx5, hx6⟩ := at_T34 (Kd.C_below hC.out hI.out.hB) (m : Int) (by omega) (by omega)
      simp only [Int.toNat_natCast] at hx0 hx1 hx2 hx3 hx4 hx5 hx6
      generalize rd_T34 l (m : Int) = d at hx0 hx1 hx2 hx3 hx4 hx5 hx6
      have hdB := AsZ.mk (dW_below wr d)
      have hdC := AsZ.mk (dW_cells wr d)
      have hnd : AsZ (¬ P wr.heap.size) := ⟨fun hp => absurd (hI.out.hO.lt hp) (Nat.lt_irrefl _)⟩
      by_cases g2 : (d.f1.f2.size : Int) > 100
      · have d2 : decide ((d.f1.f2.size : Int) > 100) = true := decide_eq_true g2
        have d2' : decide (100 < (d.f1.f2.size : Int)) = true := decide_eq_true g2
        replace g2 := AsZ.mk g2
        go_wp2_with ((with_reducible refine gate_store (t := 34) (p := 10) rfl ?_); refine list_store_row rfl 34 (.tmp 10) (.tmp 29) rfl rfl wr.heap.size rfl (dCells d) rfl _ 34 (blk_new wr dZero) (by kernel_rfl) rfl (by simp [dCells, Value.oneCell']) ?_; change wpList _ _ _ _ _ (dWorld wr d); generalize dWorld wr d = X1 at hdB hdC ⊢; have hI1 := AsZ.mk (hI.out.below hdB.out); obtain ⟨q0, q1, q2, q3, q4, q5, q6⟩ := d_cells hdC.out)
        go_ret
        exact ⟨rfl, hI1.out.hB⟩
      have d2 : decide ((d.f1.f2.size : Int) > 100) = false := decide_eq_false g2
      have d2' : decide (100 < (d.f1.f2.size : Int)) = false := decide_eq_false g2
      replace g2 := AsZ.mk g2
      by_cases k1 : d.f0 = 1
      · have e1 : (d.f0 == 1) = true := beq_iff_eq.2 k1
        replace k1 := AsZ.mk k1
        by_cases h0 : 0 ≤ d.f2 ∧ d.f2 < 16
        · have f1 : decide (0 ≤ d.f2) = true := decide_eq_true h0.1
          have f2 : decide (d.f2 < 16) = true := decide_eq_true h0.2
          have hV1 := hI.out.hV d.f2.toNat
          obtain ⟨h01, h02⟩ := id h0
          have hq16 := AsZ.mk (show d.f2.toNat < 16 by have := h0.2; omega)
          have hw : IntKind.i64.wrap (V d.f2.toNat + 1) = V d.f2.toNat + 1 := Org.wr (by omega)
          replace hV1 := AsZ.mk hV1
          replace h0 := AsZ.mk h0
          go_wp2_with (first
            | ((with_reducible refine gate_store (t := 34) (p := 10) rfl ?_); refine list_store_row rfl 34 (.tmp 10) (.tmp 29) rfl rfl wr.heap.size rfl (dCells d) rfl _ 34 (blk_new wr dZero) (by kernel_rfl) rfl (by simp [dCells, Value.oneCell']) ?_; change wpList _ _ _ _ _ (dWorld wr d); generalize dWorld wr d = X1 at hdB hdC ⊢; have hI1 := AsZ.mk (hI.out.below hdB.out); obtain ⟨q0, q1, q2, q3, q4, q5, q6⟩ := d_cells hdC.out)
            | (go_at_call 7; refine (turn_calls d.f2 X1 hI1.out.hO h0.out ⟨hV1.out.1, by have := hV1.out.2; have := hl80.out; omega⟩).mono ?_; rintro e X2 ⟨rfl, hO, hK⟩; have hI2 := AsZ.mk (hI1.out.keep hK (fun k hk => .inl hk) hO); have hdC2 := AsZ.mk (hK.cells hdC.out hnd.out); have hvc := (bCe hI2.out.hv d.f2.toNat).trans (agC_get _ _ _ _ hq16.out); have hvz := bFz hI2.out.hv d.f2.toNat; clear hO hK; clear q0 q1 q2 q3 q4 q5 q6; obtain ⟨q0, q1, q2, q3, q4, q5, q6⟩ := d_cells hdC2.out))
          go_roundg (l.length - (m + 1))
          case measure => omega
          case rel => exact ⟨m + 1, P, _, F, As, by go_num, by omega, by omega, ⟨hI2.out.succ.setv hq16.out _ ⟨by have := hV1.out.1; omega, by have := hV1.out.2; push_cast; omega⟩⟩⟩
        · by_cases h3 : 0 ≤ d.f2
          all_goals
            first | (have f1 : decide (0 ≤ d.f2) = true := decide_eq_true h3; have f2 : decide (d.f2 < 16) = false := decide_eq_false (fun h => h0 ⟨h3, h⟩)) | have f1 : decide (0 ≤ d.f2) = false := decide_eq_false h3
            replace h0 := AsZ.mk h0
            replace h3 := AsZ.mk h3
            go_wp2_with (first
              | ((with_reducible refine gate_store (t := 34) (p := 10) rfl ?_); refine list_store_row rfl 34 (.tmp 10) (.tmp 29) rfl rfl wr.heap.size rfl (dCells d) rfl _ 34 (blk_new wr dZero) (by kernel_rfl) rfl (by simp [dCells, Value.oneCell']) ?_; change wpList _ _ _ _ _ (dWorld wr d); generalize dWorld wr d = X1 at hdB hdC ⊢; have hI1 := AsZ.mk (hI.out.below hdB.out); obtain ⟨q0, q1, q2, q3, q4, q5, q6⟩ := d_cells hdC.out)
              | (go_at_call 7; refine (turn_not d.f2 X1 hI1.out.hO h0.out).mono ?_; rintro e X2 ⟨rfl, hb⟩; have hI2 := AsZ.mk (hI1.out.below hb); have hdC2 := AsZ.mk (bBl hdC.out hb); clear hb; clear q0 q1 q2 q3 q4 q5 q6; obtain ⟨q0, q1, q2, q3, q4, q5, q6⟩ := d_cells hdC2.out))
            go_roundg (l.length - (m + 1))
            case measure => omega
            case rel => exact ⟨m + 1, P, V, F, As, by go_num, by omega, by omega, ⟨hI2.out.succ⟩⟩
      have e1 : (d.f0 == 1) = false := by simpa using k1
      replace k1 := AsZ.mk k1
      by_cases k2 : d.f0 = 2
      · have e2 : (d.f0 == 2) = true := beq_iff_eq.2 k2
        replace k2 := AsZ.mk k2
        have hFl := AsZ.mk hI.out.hl.1
        go_wp2_with (first
          | ((with_reducible refine gate_store (t := 34) (p := 10) rfl ?_); refine list_store_row rfl 34 (.tmp 10) (.tmp 29) rfl rfl wr.heap.size rfl (dCells d) rfl _ 34 (blk_new wr dZero) (by kernel_rfl) rfl (by simp [dCells, Value.oneCell']) ?_; change wpList _ _ _ _ _ (dWorld wr d); generalize dWorld wr d = X1 at hdB hdC ⊢; have hI1 := AsZ.mk (hI.out.below hdB.out); obtain ⟨q0, q1, q2, q3, q4, q5, q6⟩ := d_cells hdC.out)
          | (go_at_call 8; refine (fault_calls _ 1 [d.f2] _ (hI1.out.hO.below (aBl (Below.refl _ _) _)) (one_C X1 d.f2) (by have := hFl.out; have := hl80.out; simp; omega)).mono ?_; rintro e X2 ⟨rfl, hO, hK⟩; have hI2 := AsZ.mk ((hI1.out.below (aBl (Below.refl _ X1) (.cells #[.int .i64 d.f2] 3 (0, 0)))).keep hK (fun k hk => px_of hk) hO); have hdC2 := AsZ.mk (hK.cells (bAl hdC.out _) hnd.out); clear hO hK; clear q0 q1 q2 q3 q4 q5 q6; obtain ⟨q0, q1, q2, q3, q4, q5, q6⟩ := d_cells hdC2.out)
          | (at_builtin; go_loud (refine Kd.Q_append kI (w0 := w) w.heap.size rfl (.tmp 109) (.tmp 112) 27 3 (.int .i64 0) 8 rfl Try.underlying27 infoI rfl (by decide) (by decide) u7 F d.f2 [.int .i64 d.f2] (fun k => ¬ PX P _ X2 k) (fun _ => False) rfl rfl rfl (fun _ h => h.elim) (fun k hk hp => absurd hp.2 (by omega)) hI2.out.hF hI2.out.hB hI2.out.hB.size (by have := hFl.out; have := hl80.out; omega) ?_; intro v1 w1 hQ hb1 hg1 hat; clear hat; have hI3 := AsZ.mk (hI2.out.appF hg1 hb1 hQ); clear hQ hb1 hg1)))
        go_roundg (l.length - (m + 1))
        case measure => omega
        case rel => exact ⟨m + 1, _, V, _, As, by go_num, by omega, by omega, hI3⟩
      have e2 : (d.f0 == 2) = false := by simpa using k2
      replace k2 := AsZ.mk k2
      obtain ⟨AF, cF, rfl, hcF⟩ := Kd.Q_slice hI.out.hF
      replace hcF := AsZ.mk hcF
      have hFl := AsZ.mk hI.out.hl
      obtain ⟨r, hrv⟩ : ∃ x, ans d.f1 (verP V d.f1.f0) = x := ⟨_, rfl⟩
      have hrs : AsZ (RSm r) := ⟨by rw [← hrv]; exact ans_small _ _⟩
      have CRf : AsZ (∀ X, Calls Try.prog 9 #[askV d.f1, .int .i64 (verP V d.f1.f0)] X fun e w' => ∃ u, e = .returned u ∧ RepV w' X.heap.size u r ∧ Below X.heap.size X w') := ⟨fun X => by rw [← hrv]; exact ref_calls d.f1 _ X⟩
      replace hrv := AsZ.mk hrv
      obtain ⟨R, hR⟩ : ∃ x, served F r = x := ⟨_, rfl⟩
      replace hR := AsZ.mk hR
      obtain ⟨kv, hkv0⟩ : ∃ x, verP V d.f1.f0 = x := ⟨_, rfl⟩
      rw [hkv0] at CRf
      rcases rng_cases d.f1.f0 with h | h | h
      all_goals
        first
          | (have r0 : 0 ≤ d.f1.f0 ∧ d.f1.f0 < 16 := h; rw [verP, if_pos r0] at hkv0; have hkV := AsZ.mk hkv0; clear hkv0; have f1 : decide (0 ≤ d.f1.f0) = true := decide_eq_true r0.1; have f2 : decide (d.f1.f0 < 16) = true := decide_eq_true r0.2; have hq16 := AsZ.mk (show d.f1.f0.toNat < 16 by have := r0.2; omega); obtain ⟨h01, h02⟩ := id r0; replace r0 := AsZ.mk r0)
          | (have r0 : 0 ≤ d.f1.f0 ∧ ¬ d.f1.f0 < 16 := h; rw [verP, if_neg (fun hh => r0.2 hh.2)] at hkv0; subst hkv0; have f1 : decide (0 ≤ d.f1.f0) = true := decide_eq_true r0.1; have f2 : decide (d.f1.f0 < 16) = false := decide_eq_false r0.2; replace r0 := AsZ.mk r0)
          | (have r0 : ¬ 0 ≤ d.f1.f0 := h; rw [verP, if_neg (fun hh => r0 hh.1)] at hkv0; subst hkv0; have f1 : decide (0 ≤ d.f1.f0) = false := decide_eq_false r0; replace r0 := AsZ.mk r0)
        replace h := AsZ.mk h
        by_cases hF1 : 1 ≤ F.length
        case' neg =>
          have hF0 : F = [] := List.eq_nil_of_length_eq_zero (by omega)
          have g0 : decide ((F.length : Int) > 0) = false := decide_eq_false (by omega)
          have g0' : decide (0 < (F.length : Int)) = false := decide_eq_false (by omega)
          have hF0z : ¬ (0 : Int) < F.length := by omega
          have hF0y : ¬ 0 < F.length := by omega
          replace hF0 := AsZ.mk hF0
          replace hF1 := AsZ.mk hF1
          go_wp2_with (first | ((with_reducible refine gate_store (t := 34) (p := 10) rfl ?_); refine list_store_row rfl 34 (.tmp 10) (.tmp 29) rfl rfl wr.heap.size rfl (dCells d) rfl _ 34 (blk_new wr dZero) (by kernel_rfl) rfl (by simp [dCells, Value.oneCell']) ?_; change wpList _ _ _ _ _ (dWorld wr d); generalize dWorld wr d = X1 at hdB hdC ⊢; have hI1 := AsZ.mk (hI.out.below hdB.out); obtain ⟨q0, q1, q2, q3, q4, q5, q6⟩ := d_cells hdC.out) | (at_builtin; (refine Kd.R_append kA (w0 := w) w.heap.size rfl (.tmp 37) (.tmp 40) 28 32 _ 48 rfl Try.underlying28 infoA rfl (by decide) (by decide) u8 As d.f1 [.int .i64 d.f1.f0, .bool d.f1.f1, .string d.f1.f2, .int .i64 d.f1.f3.f0, .int .i64 d.f1.f3.f1] (fun k => ¬ P k) (fun _ => False) rfl rfl (k32_mkM _ _ _ d.f1) (fun _ h => h.elim) (fun k hk hp => absurd (hI1.out.hO.lt hp) (by omega)) hI1.out.hA hI1.out.hB hI1.out.hB.size (by have := hFl.out.2; have := hl80.out; omega) ?_; intro v1 w1 hR hb1 hg1 hat; clear hat; have hI2 := AsZ.mk (hI1.out.appA hg1 hb1 hR); have hdC2 := AsZ.mk ((KeepP.of_grown hg1).cells hdC.out (fun e => Kd.R_ne hI1.out.hA hdC.out (by decide) e)); clear hR hb1 hg1; clear q0 q1 q2 q3 q4 q5 q6; obtain ⟨q0, q1, q2, q3, q4, q5, q6⟩ := d_cells hdC2.out; (try have hvc : w1.cell? ⟨nv, d.f1.f0.toNat, none⟩ = some (.int .i64 kv) := ((bCe hI2.out.hv d.f1.f0.toNat).trans (agC_get _ _ _ _ hq16.out)).trans (by rw [hkV.out])))) | (go_at_call 9; refine (CRf.out w1).mono ?_; rintro e w3 ⟨u, rfl, hr, hb⟩; have hs13 := AsZ.mk hb.size; have hs3 := AsZ.mk (show ∀ k, P k → k < w1.heap.size from fun k hk => hI2.out.hO.lt hk); have hI3 := AsZ.mk (hI2.out.below hb); have hdC3 := AsZ.mk (bBl hdC2.out hb); have hr3 := AsZ.mk hr.toX; obtain ⟨Au, cu, rfl, hlu, hCu⟩ := hr; clear hlu hCu hb; clear q0 q1 q2 q3 q4 q5 q6; obtain ⟨q0, q1, q2, q3, q4, q5, q6⟩ := d_cells hdC3.out) | ((with_reducible refine gate_store (t := 40) (p := 13) rfl ?_); refine list_store_row rfl 40 (.tmp 13) (.tmp 60) rfl rfl w3.heap.size rfl (rCells r Au cu) rfl _ 40 (blk_new w3 rZero) (by kernel_rfl) rfl (by simp [rCells, Value.oneCell']) ?_; change wpList _ _ _ _ _ (rWorld w3 (rCells r Au cu)); have hZB := AsZ.mk (rW_below w3 (rCells r Au cu)); have hZC := AsZ.mk (rW_cells w3 (rCells r Au cu)); generalize rWorld w3 (rCells r Au cu) = Z at hZB hZC ⊢))
          have eR : r = R := by rw [← hR.out, hF0.out]; rfl
          have ht : F.tail = F := by rw [hF0.out]; rfl
          have hI7 : AsZ (Inv w nv g (m + 1) P V F As V F.tail (As ++ [d.f1]) (.slice AF F.length cF) v1 Z) := ⟨by rw [ht]; exact hI3.out.below hZB.out⟩
          have hr7 := AsZ.mk (hr3.out.below hZB.out)
          have hQ7 : AsZ (∀ k, (w1.heap.size ≤ k ∧ k < w3.heap.size) → ¬ P k) := ⟨fun k hk hp => by have := hs3.out k hp; omega⟩
          have hRb : AsZ (R.2.2.2.2.length ≤ 1000) := ⟨by rw [← eR]; exact Nat.le_trans hrs.out.body (by decide)⟩
          rw [eR] at hZC hr7
          obtain ⟨Z2, hz2⟩ : ∃ X, X = Z := ⟨_, rfl⟩
          subst hz2
          obtain ⟨Au2, hz2⟩ : ∃ X, X = Au := ⟨_, rfl⟩
          subst hz2
          obtain ⟨cu2, hz2⟩ : ∃ X, X = cu := ⟨_, rfl⟩
          subst hz2
          have hZ2B := hZB
          have hZ2C := hZC
        case' pos =>
          have g0 : decide ((F.length : Int) > 0) = true := decide_eq_true (by omega)
          have g0' : decide (0 < (F.length : Int)) = true := decide_eq_true (by omega)
          obtain ⟨adF, eAF, hxF⟩ := Kd.at_int (Kd.Q_reads' hI.out.hF).2.2 0 (by omega) (by omega)
          subst eAF
          clear hxF
          have hcut := cut_run (some adF) F.length cF hF1
          obtain ⟨A', hA'⟩ : ∃ x, (if cF = 1 then some adF else (some adF).map (·.add 1)) = x := ⟨_, rfl⟩
          rw [hA'] at hcut
          replace hA' := AsZ.mk hA'
          have hF1z : (1 : Int) ≤ F.length := by omega
          have hF0z : (0 : Int) < F.length := by omega
          go_wp2_with (first | ((with_reducible refine gate_store (t := 34) (p := 10) rfl ?_); refine list_store_row rfl 34 (.tmp 10) (.tmp 29) rfl rfl wr.heap.size rfl (dCells d) rfl _ 34 (blk_new wr dZero) (by kernel_rfl) rfl (by simp [dCells, Value.oneCell']) ?_; change wpList _ _ _ _ _ (dWorld wr d); generalize dWorld wr d = X1 at hdB hdC ⊢; have hI1 := AsZ.mk (hI.out.below hdB.out); obtain ⟨q0, q1, q2, q3, q4, q5, q6⟩ := d_cells hdC.out) | (at_builtin; (refine Kd.R_append kA (w0 := w) w.heap.size rfl (.tmp 37) (.tmp 40) 28 32 _ 48 rfl Try.underlying28 infoA rfl (by decide) (by decide) u8 As d.f1 [.int .i64 d.f1.f0, .bool d.f1.f1, .string d.f1.f2, .int .i64 d.f1.f3.f0, .int .i64 d.f1.f3.f1] (fun k => ¬ P k) (fun _ => False) rfl rfl (k32_mkM _ _ _ d.f1) (fun _ h => h.elim) (fun k hk hp => absurd (hI1.out.hO.lt hp) (by omega)) hI1.out.hA hI1.out.hB hI1.out.hB.size (by have := hFl.out.2; have := hl80.out; omega) ?_; intro v1 w1 hR hb1 hg1 hat; clear hat; have hI2 := AsZ.mk (hI1.out.appA hg1 hb1 hR); have hdC2 := AsZ.mk ((KeepP.of_grown hg1).cells hdC.out (fun e => Kd.R_ne hI1.out.hA hdC.out (by decide) e)); clear hR hb1 hg1; clear q0 q1 q2 q3 q4 q5 q6; obtain ⟨q0, q1, q2, q3, q4, q5, q6⟩ := d_cells hdC2.out; (try have hvc : w1.cell? ⟨nv, d.f1.f0.toNat, none⟩ = some (.int .i64 kv) := ((bCe hI2.out.hv d.f1.f0.toNat).trans (agC_get _ _ _ _ hq16.out)).trans (by rw [hkV.out])))) | (go_at_call 9; refine (CRf.out w1).mono ?_; rintro e w3 ⟨u, rfl, hr, hb⟩; have hs13 := AsZ.mk hb.size; have hs3 := AsZ.mk (show ∀ k, P k → k < w1.heap.size from fun k hk => hI2.out.hO.lt hk); have hI3 := AsZ.mk (hI2.out.below hb); have hdC3 := AsZ.mk (bBl hdC2.out hb); have hr3 := AsZ.mk hr.toX; obtain ⟨Au, cu, rfl, hlu, hCu⟩ := hr; clear hlu hCu hb; clear q0 q1 q2 q3 q4 q5 q6; obtain ⟨q0, q1, q2, q3, q4, q5, q6⟩ := d_cells hdC3.out) | ((with_reducible refine gate_store (t := 40) (p := 13) rfl ?_); refine list_store_row rfl 40 (.tmp 13) (.tmp 60) rfl rfl w3.heap.size rfl (rCells r Au cu) rfl _ 40 (blk_new w3 rZero) (by kernel_rfl) rfl (by simp [rCells, Value.oneCell']) ?_; change wpList _ _ _ _ _ (rWorld w3 (rCells r Au cu)); have hZB := AsZ.mk (rW_below w3 (rCells r Au cu)); have hZC := AsZ.mk (rW_cells w3 (rCells r Au cu)); generalize rWorld w3 (rCells r Au cu) = Z at hZB hZC ⊢))
          rename_i Kz hKz
          replace hKz := AsZ.mk hKz
          clear q0 q1 q2 q3 q4 q5 q6
          obtain ⟨adF', eAF, hxF⟩ := Kd.at_int (Kd.Q_reads' hI3.out.hF).2.2 0 (by omega) (by omega)
          obtain rfl : adF = adF' := Option.some.inj eAF
          clear eAF
          have hSf : ∀ X, Below w3.heap.size w3 X → X.cell? adF = some (.int .i64 (rd F 0)) := fun X hk => (hk.cell (World.block_lt_of_cell? w3 _ hxF)).trans hxF
          clear hxF
          have hX := AsZ.mk (tBl hZB.out (below_drew (Below.refl _ Z)))
          have hZd := AsZ.mk (bDr hZC.out)
          have hrd := AsZ.mk ((hr3.out.below hZB.out).below (below_drew (Below.refl _ Z)))
          have hsd := AsZ.mk (show w3.heap.size < Z.drew.heap.size from bLt hZd.out)
          refine wp_region_noPanic ?_
          refine wp_region_held_drew (S := fun X => Below w3.heap.size w3 X) (by kernel_rfl) hX.out (fun hHeld => ?_)
          generalize Z.drew = wd at hX hZd hrd hsd hHeld ⊢
          refine wpAnyH_take (i := 0) (oi := { dst := some 64, op := Go.Op.move (Go.Operand.tmp 7), type := 27, pos := "law.go:61", after := #[], guard := none }) (v := ?_) rfl (by kernel_rfl) (by kernel_rfl) (by kernel_rfl) (fun _ _ _ h => h) (Or.inl ⟨by kernel_rfl, ?_⟩) (by assumption) ?_
          rotate_left
          · intro W hSw; go_simp; first | done | with_reducible rfl
          try simp only [Act.put, lsA, lsB, lsC]
          refine wpAnyH_take (i := 1) (oi := { dst := some 65, op := Go.Op.indexAddr 27 (Go.Operand.tmp 64) (Go.Operand.const (Go.Value.int Go.IntKind.i64 0)), type := 0, pos := "law.go:61", after := #[{ on := 0, ground := Go.Ground.data }], guard := none }) (v := ?_) rfl (by kernel_rfl) (by kernel_rfl) (by kernel_rfl) (fun _ _ _ h => h) (Or.inl ⟨by kernel_rfl, ?_⟩) (by assumption) ?_
          rotate_left
          · intro W hSw; go_simp; first | done | with_reducible rfl
          try simp only [Act.put, lsA, lsB, lsC]
          refine wpAnyH_take (i := 2) (oi := { dst := some 66, op := Go.Op.load 3 (Go.Operand.tmp 65), type := 3, pos := "law.go:61", after := #[{ on := 1, ground := Go.Ground.data }], guard := none }) (v := ?_) rfl (by kernel_rfl) (by kernel_rfl) (by kernel_rfl) (fun _ _ _ h => h) (Or.inl ⟨by kernel_rfl, ?_⟩) (by assumption) ?_
          rotate_left
          · intro W hSw; go_simp; first | done | with_reducible rfl
          try simp only [Act.put, lsA, lsB, lsC]
          refine wpAnyH_ready (rs := [3]) (by kernel_rfl) (by simp) ?_
          refine AllReadyH.cons (o := { dst := some 67, op := Go.Op.load 40 (Go.Operand.tmp 13), type := 40, pos := "law.go:61", after := #[], guard := none }) rfl (fun K hK => ?_) AllReadyH.nil
          obtain ⟨p0, p1, p2, p3, p4⟩ := r_cells hZd.out
          go_simp
          clear p0 p1 p2 p3 p4
          refine hK.out _ _ ?_ (fun hHeld => ?_)
          · exact hX.out
          clear hK K
          try simp only [Act.put, lsA, lsB, lsC]
          refine wpAnyH_ready (rs := [4]) (by kernel_rfl) (by simp) ?_
          refine AllReadyH.cons (o := { dst := some 68, op := Go.Op.call { callee := Go.Callee.value (Go.Operand.func 10), args := #[Go.Operand.tmp 66, Go.Operand.tmp 67], argTypes := #[3, 40] }, type := 40, pos := "law.go:61", after := #[{ on := 2, ground := Go.Ground.data }, { on := 3, ground := Go.Ground.data }], guard := none }) rfl (fun K hK => ?_) AllReadyH.nil
          refine goes_ (N := some 68) («as» := #[.tmp 66, .tmp 67]) Try.func10 (by kernel_rfl) rfl #[.int .i64 (rd F 0), .agg #[.int .i64 (r).1, .string (r).2.1, .int .i64 (r).2.2.1, .string (r).2.2.2.1, .slice Au (r).2.2.2.2.length cu]] (by kernel_rfl) rfl rfl (by kernel_rfl) ?_
          refine (ref_flt2 (rd F 0) r hrs.out _ _ wd hrd.out).mono ?_
          rintro e Y ⟨u2, rfl, hru2, hb⟩
          refine ⟨_, rfl, ?_⟩
          have hXY := AsZ.mk (tBl hX.out hb)
          have hYC := AsZ.mk (bBl hZd.out hb)
          replace hru2 := AsZ.mk hru2
          clear hb
          refine hK.out _ _ ?_ (fun hHeld => ?_)
          · exact hXY.out
          clear hK K
          try simp only [Act.put, lsA, lsB, lsC]
          refine wpAnyH_ready (rs := [5]) (by kernel_rfl) (by simp) ?_
          refine AllReadyH.cons (o := { dst := none, op := Go.Op.store 40 (Go.Operand.tmp 13) (Go.Operand.tmp 68), type := 0, pos := "law.go:61", after := #[{ on := 4, ground := Go.Ground.data }, { on := 4, ground := Go.Ground.chain }, { on := 0, ground := Go.Ground.phase }, { on := 1, ground := Go.Ground.phase }, { on := 2, ground := Go.Ground.phase }, { on := 3, ground := Go.Ground.phase }, { on := 4, ground := Go.Ground.phase }], guard := none }) rfl (fun K hK => ?_) AllReadyH.nil
          have hru3 := hru2.out
          obtain ⟨Au2, cu2, rfl, hlu, hCu⟩ := hru3
          clear hlu hCu
          rw [if_pos (by first | rfl | kernel_rfl)]
          refine wp_store_row 40 (.tmp 13) (.tmp 68) rfl rfl w3.heap.size rfl _ rfl _ 40 hYC.out (by kernel_rfl) rfl (by simp [Value.oneCell']) ?_
          refine hK.out _ _ ?_ (fun hHeld => ?_)
          · exact below_setRow hXY.out (Nat.le_refl _) _
          clear hK K
          try simp only [Act.put, lsA, lsB, lsC]
          refine wpAnyH_done (by kernel_rfl) ?_ _
          try simp only [Act.put, lsA, lsB, lsC, List.getElem_toArray, List.getElem_cons_zero, List.getElem_cons_succ]
          refine NoPanic.normal ?_
          (try dsimp only [Exit.then])
          refine hKz.out _ _ ?_
          clear hHeld hSf hKz
          have eR : flt (rd F 0) r = R := by rw [← hR.out]; cases F with | nil => exact absurd hF1 (by simp) | cons a b => rfl
          have hZ2B := AsZ.mk (below_setRow hXY.out (Nat.le_refl _) (rCells (flt (rd F 0) r) Au2 cu2))
          have hZ2C := AsZ.mk (setRow_heap Y w3.heap.size _ (rCells (flt (rd F 0) r) Au2 cu2) 40 (0, 0) hYC.out)
          have hr7 := AsZ.mk (hru2.out.keep (P := fun k => k = w3.heap.size) (KeepP.setRow (P := fun k => k = w3.heap.size) (g := w3.heap.size) (KeepP.refl Y _) (.inl rfl) (rCells (flt (rd F 0) r) Au2 cu2)) (fun k hk e => hk.elim (fun h => by omega) (fun h => by have := hsd.out; omega)))
          change Code.wp _ _ _ _ (Y.setRow w3.heap.size (rCells (flt (rd F 0) r) Au2 cu2))
          generalize Y.setRow w3.heap.size (rCells (flt (rd F 0) r) Au2 cu2) = Z2 at hZ2B hZ2C hr7 ⊢
          have hI7 := (hI3.out.below hZ2B.out).cutF hF1
          rw [hA'.out] at hI7
          replace hI7 := AsZ.mk hI7
          have hRb : AsZ (R.2.2.2.2.length ≤ 1000) := ⟨by rw [← eR]; exact Nat.le_trans (flt_body _ _ hrs.out) (by decide)⟩
          obtain ⟨q0, q1, q2, q3, q4, q5, q6⟩ := d_cells (bBl hdC3.out hZ2B.out)
          have hQ7 : AsZ (∀ k, ((w1.heap.size ≤ k ∧ k < w3.heap.size) ∨ wd.heap.size ≤ k) → ¬ P k) := ⟨fun k hk hp => by have := hs3.out k hp; have := hsd.out; have := hs13.out; omega⟩
          clear hX hZd hrd hXY hYC hru2
          rw [eR] at hZ2C hr7
          go_wp2
        all_goals
          rename_i Kz hKz
          replace hKz := AsZ.mk hKz
          clear q0 q1 q2 q3 q4 q5 q6
          have hdZ := AsZ.mk (bBl hdC3.out hZ2B.out)
          have hnw : AsZ (¬ P w3.heap.size) := ⟨fun hp => absurd (hI3.out.hO.lt hp) (Nat.lt_irrefl _)⟩
          have hS1 := fun X (hk : KeepP Z2 P X) => (d_cells (hk.cells hdZ.out hnd.out)).2.1
          have hS2 := fun X (hk : KeepP Z2 P X) => (d_cells (hk.cells hdZ.out hnd.out)).2.2.1
          have hS3 := fun X (hk : KeepP Z2 P X) => (d_cells (hk.cells hdZ.out hnd.out)).2.2.2.1
          have hS4 := fun X (hk : KeepP Z2 P X) => (d_cells (hk.cells hdZ.out hnd.out)).2.2.2.2.1
          have hS5 := fun X (hk : KeepP Z2 P X) => (d_cells (hk.cells hdZ.out hnd.out)).2.2.2.2.2.1
          have hT0 := fun X (hk : KeepP Z2 P X) => (r_cells (hk.cells hZ2C.out hnw.out)).1
          have hT1 := fun X (hk : KeepP Z2 P X) => (r_cells (hk.cells hZ2C.out hnw.out)).2.1
          have hT2 := fun X (hk : KeepP Z2 P X) => (r_cells (hk.cells hZ2C.out hnw.out)).2.2.1
          have hT3 := fun X (hk : KeepP Z2 P X) => (r_cells (hk.cells hZ2C.out hnw.out)).2.2.2.1
          have hT4 := fun X (hk : KeepP Z2 P X) => (r_cells (hk.cells hZ2C.out hnw.out)).2.2.2.2
          have hX := AsZ.mk (KeepP.refl Z2 P).drew
          have hId := AsZ.mk (hI7.out.below (below_drew (Below.refl _ Z2)))
          have hrd := AsZ.mk (hr7.out.below (below_drew (Below.refl _ Z2)))
          refine wp_region_noPanic ?_
          refine wp_region_held_drew (S := fun X => KeepP Z2 P X) (by kernel_rfl) hX.out (fun hHeld => ?_)
          generalize Z2.drew = wd at hX hId hrd hHeld ⊢
          refine wpAnyH_take (i := 0) (oi := { dst := some 71, op := Go.Op.move (Go.Operand.tmp 5), type := 24, pos := "law.go:64", after := #[], guard := none }) (v := ?_) rfl (by kernel_rfl) (by kernel_rfl) (by kernel_rfl) (fun _ _ _ h => h) (Or.inl ⟨by kernel_rfl, ?_⟩) (by assumption) ?_
          rotate_left
          · intro W hSw; go_simp; first | done | with_reducible rfl
          try simp only [Act.put, lsA, lsB, lsC]
          refine wpAnyH_take (i := 1) (oi := { dst := some 72, op := Go.Op.fieldAddr 34 (Go.Operand.tmp 10) 1, type := 0, pos := "law.go:64", after := #[], guard := none }) (v := ?_) rfl (by kernel_rfl) (by kernel_rfl) (by kernel_rfl) (fun _ _ _ h => h) (Or.inl ⟨by kernel_rfl, ?_⟩) (by assumption) ?_
          rotate_left
          · intro W hSw; go_simp; first | done | with_reducible rfl
          try simp only [Act.put, lsA, lsB, lsC]
          refine wpAnyH_take (i := 2) (oi := { dst := some 73, op := Go.Op.load 32 (Go.Operand.tmp 72), type := 32, pos := "law.go:64", after := #[{ on := 1, ground := Go.Ground.data }], guard := none }) (v := ?_) rfl (by kernel_rfl) (by kernel_rfl) (by kernel_rfl) (fun _ _ _ h => h) (Or.inl ⟨by kernel_rfl, ?_⟩) (by assumption) ?_
          rotate_left
          · intro W hSw; go_simp; first | done | with_reducible rfl
          try simp only [Act.put, lsA, lsB, lsC]
          refine wpAnyH_take (i := 4) (oi := { dst := some 75, op := Go.Op.load 40 (Go.Operand.tmp 13), type := 40, pos := "law.go:64", after := #[], guard := none }) (v := ?_) rfl (by kernel_rfl) (by kernel_rfl) (by kernel_rfl) (fun _ _ _ h => h) (Or.inl ⟨by kernel_rfl, ?_⟩) (by assumption) ?_
          rotate_left
          · intro W hSw; go_simp; first | done | with_reducible rfl
          try simp only [Act.put, lsA, lsB, lsC]
          refine wpAnyH_ready (rs := [3]) (by kernel_rfl) (by simp) ?_
          refine AllReadyH.cons (o := { dst := some 74, op := Go.Op.call { callee := Go.Callee.value (Go.Operand.func 12), args := #[Go.Operand.tmp 71, Go.Operand.tmp 73], argTypes := #[24, 32] }, type := 40, pos := "law.go:64", after := #[{ on := 0, ground := Go.Ground.data }, { on := 2, ground := Go.Ground.data }], guard := none }) rfl (fun K hK => ?_) AllReadyH.nil
          refine goes_ (N := some 74) («as» := #[.tmp 71, .tmp 73]) Try.func12 (by kernel_rfl) rfl #[.pointer (some ⟨g, 0, none⟩), askV d.f1] (by kernel_rfl) rfl rfl (by kernel_rfl) ?_
          refine (serve_calls d.f1 wd hId.out.hO (by have := hFl.out.1; have := hl80.out; omega) (by have := hFl.out.2; have := hl80.out; omega)).mono ?_
          rintro e Y5 ⟨u5, rfl, hru, hO5, hKp⟩
          refine ⟨_, rfl, ?_⟩
          rw [hrv.out, hR.out] at hru
          have hI5 := AsZ.mk (hId.out.keep hKp (fun k hk => px_of hk) hO5)
          have hr5 := AsZ.mk (hrd.out.keep hKp hQ7.out)
          have hX5 := AsZ.mk (hX.out.trans hKp (fun k hk => .inl hk))
          replace hru := AsZ.mk hru
          clear hO5 hKp
          refine hK.out _ _ ?_ (fun hHeld => ?_)
          · exact hX5.out
          clear hK K
          try simp only [Act.put, lsA, lsB, lsC]
          refine wpAnyH_ready (rs := [5]) (by kernel_rfl) (by simp) ?_
          refine AllReadyH.cons (o := { dst := some 76, op := Go.Op.call { callee := Go.Callee.value (Go.Operand.func 11), args := #[Go.Operand.tmp 74, Go.Operand.tmp 75], argTypes := #[40, 40] }, type := 4, pos := "law.go:64", after := #[{ on := 3, ground := Go.Ground.data }, { on := 4, ground := Go.Ground.data }, { on := 3, ground := Go.Ground.chain }], guard := none }) rfl (fun K hK => ?_) AllReadyH.nil
          refine goes_ (N := some 76) («as» := #[.tmp 74, .tmp 75]) Try.func11 (by kernel_rfl) rfl #[u5, .agg #[.int .i64 (R).1, .string (R).2.1, .int .i64 (R).2.2.1, .string (R).2.2.2.1, .slice Au2 (R).2.2.2.2.length cu2]] (by kernel_rfl) rfl rfl (by kernel_rfl) ?_
          refine (same_calls (R) hRb.out u5 _ _ _ _ hru.out hr5.out.toV).mono ?_
          rintro e Y6 ⟨rfl, hb6⟩
          refine ⟨_, rfl, ?_⟩
          have hI6 := AsZ.mk (hI5.out.below hb6)
          have hX6 := AsZ.mk (hX5.out.trans (KeepP.of_below (P := fun _ => False) hb6) (fun _ h => h.elim))
          clear hb6
          refine hK.out _ _ ?_ (fun hHeld => ?_)
          · exact hX6.out
          clear hK K
          try simp only [Act.put, lsA, lsB, lsC]
          refine wpAnyH_take (i := 6) (oi := { dst := some 77, op := Go.Op.unOp Go.UnOp.not 4 (Go.Operand.tmp 76), type := 4, pos := "law.go:64", after := #[{ on := 5, ground := Go.Ground.data }], guard := none }) (v := ?_) rfl (by kernel_rfl) (by kernel_rfl) (by kernel_rfl) (fun _ _ _ h => h) (Or.inl ⟨by kernel_rfl, ?_⟩) (by assumption) ?_
          rotate_left
          · intro W hSw; go_simp; first | done | with_reducible rfl
          try simp only [Act.put, lsA, lsB, lsC]
          refine wpAnyH_done (by kernel_rfl) ?_ _
          try simp only [Act.put, lsA, lsB, lsC, List.getElem_toArray, List.getElem_cons_zero, List.getElem_cons_succ]
          refine NoPanic.normal ?_
          (try dsimp only [Exit.then])
          refine hKz.out _ _ ?_
          clear hHeld hS1 hS2 hS3 hS4 hS5 hT0 hT1 hT2 hT3 hT4
          go_wp2
          go_roundg (l.length - (m + 1))
          case measure => omega
          case rel => exact ⟨m + 1, _, V, _, _, by go_num, by omega, by omega, hI6⟩
    · have hltz : ¬ (m : Int) < (l.length : Int) := by omega
      obtain ⟨AF, cF, rfl, hcF⟩ := Kd.Q_slice hI.out.hF
      obtain ⟨A9, c9, rfl⟩ := Kd.R_slice hI.out.hA
      replace hcF := AsZ.mk hcF
      have hAl : As.length ≤ 80 := Nat.le_trans hI.out.hl.2 (Nat.le_trans hml hl80p)
      go_wp2_with (first
        | (go_at_call 13; refine (asked_calls (by omega) wr hI.out.hO).mono ?_; rintro e Y1 ⟨v, rfl, hR, hb⟩; obtain ⟨A8, c8, rfl⟩ := Kd.R_slice hR; have hG1 := AsZ.mk (Kd.R_reads' hR).2.2; have hI1 := AsZ.mk (hI.out.below hb); clear hR hb)
        | (go_at_call 14; refine (faults_calls Y1 hI1.out.hO).mono ?_; rintro e Y2 ⟨rfl, hb⟩; have hG2 := AsZ.mk (Kd.C_below hG1.out hb); have hI2 := AsZ.mk (hI1.out.below hb); clear hb))
      go_loopg [131] As.length (fun gg v131 wr2 => ∃ m2 : Nat, v131 = .int .i64 m2 ∧ m2 ≤ As.length ∧ As.length - m2 ≤ gg ∧ AsZ (Inv w nv g m P V F As V F As (.slice AF F.length cF) (.slice A9 As.length c9) wr2) ∧ AsZ (kA.C wr2 A8 As.length As))
      case atStart => exact ⟨0, rfl, by omega, by omega, hI2, hG2⟩
      case round =>
        clear hI hI1 hI2 hG1 hG2
        obtain ⟨m2, rfl, hml2, hgg2, hI, hG⟩ := hrel
        by_cases hlt2 : m2 < As.length
        · have hltz2 : (m2 : Int) < (As.length : Int) := by omega
          obtain ⟨ad9, rfl, hy0, hy1, hy2, hy3, hy4⟩ := at_T32 (Kd.R_reads' hI.out.hA).2.2 (m2 : Int) (by omega) (by omega)
          obtain ⟨ad8, rfl, hz0, hz1, hz2, hz3, hz4⟩ := at_T32 hG.out (m2 : Int) (by omega) (by omega)
          simp only [Int.toNat_natCast] at hy0 hy1 hy2 hy3 hy4 hz0 hz1 hz2 hz3 hz4
          generalize rd_T32 As (m2 : Int) = a at hy0 hy1 hy2 hy3 hy4 hz0 hz1 hz2 hz3 hz4
          have hZB := AsZ.mk (aW_below wr a)
          have hZC := AsZ.mk (aW_cells wr a)
          go_wp2_with ((with_reducible refine gate_store (t := 32) (p := 16) rfl ?_); refine list_store_row rfl 32 (.tmp 16) (.tmp 135) rfl rfl wr.heap.size rfl (aCells a) rfl _ 32 (blk_new wr aZero) (by kernel_rfl) rfl (by simp [aCells, Value.oneCell']) ?_; change wpList _ _ _ _ _ (aWorld wr a); generalize aWorld wr a = Z at hZB hZC ⊢)
          rename_i Kz hKz
          replace hKz := AsZ.mk hKz
          have hG0 := fun X (hk : Below wr.heap.size wr X) => (hk.cell (World.block_lt_of_cell? wr _ hz0)).trans hz0
          have hG1 := fun X (hk : Below wr.heap.size wr X) => (hk.cell (World.block_lt_of_cell? wr _ hz1)).trans hz1
          have hG2 := fun X (hk : Below wr.heap.size wr X) => (hk.cell (World.block_lt_of_cell? wr _ hz2)).trans hz2
          have hG3 := fun X (hk : Below wr.heap.size wr X) => (hk.cell (World.block_lt_of_cell? wr _ hz3)).trans hz3
          have hG4 := fun X (hk : Below wr.heap.size wr X) => (hk.cell (World.block_lt_of_cell? wr _ hz4)).trans hz4
          clear hy0 hy1 hy2 hy3 hy4 hz0 hz1 hz2 hz3 hz4
          have hS0 : ∀ X, Below Z.heap.size Z X → X.cell? (ad8.add (m2 * 5)) = some (.int .i64 a.f0) := fun X hk => hG0 X (tBl hZB.out hk)
          have hS1 := fun X (hk : Below Z.heap.size Z X) => hG1 X (tBl hZB.out hk)
          have hS2 := fun X (hk : Below Z.heap.size Z X) => hG2 X (tBl hZB.out hk)
          have hS3 := fun X (hk : Below Z.heap.size Z X) => hG3 X (tBl hZB.out hk)
          have hS4 := fun X (hk : Below Z.heap.size Z X) => hG4 X (tBl hZB.out hk)
          clear hG0 hG1 hG2 hG3 hG4
          have hT0 := fun X (hk : Below Z.heap.size Z X) => (ask_cells (a := a) (bBl hZC.out hk)).1
          have hT1 := fun X (hk : Below Z.heap.size Z X) => (ask_cells (a := a) (bBl hZC.out hk)).2.1
          have hT2 := fun X (hk : Below Z.heap.size Z X) => (ask_cells (a := a) (bBl hZC.out hk)).2.2.1
          have hT3 := fun X (hk : Below Z.heap.size Z X) => (ask_cells (a := a) (bBl hZC.out hk)).2.2.2.1
          have hT4 := fun X (hk : Below Z.heap.size Z X) => (ask_cells (a := a) (bBl hZC.out hk)).2.2.2.2
          have hne : ∀ W, (binOp .neq 32 (.agg #[.int .i64 a.f0, .bool a.f1, .string a.f2, .int .i64 a.f3.f0, .int .i64 a.f3.f1]) (.agg #[.int .i64 a.f0, .bool a.f1, .string a.f2, .int .i64 a.f3.f0, .int .i64 a.f3.f1])).run Try.prog W = .ok (.bool false) W := fun W => neq_ask a W
          have hX := AsZ.mk (below_drew (Below.refl Z.heap.size Z))
          refine wp_region_noPanic ?_
          refine wp_region_held_drew (S := fun X => Below Z.heap.size Z X) (by kernel_rfl) hX.out (fun hHeld => ?_)
          generalize Z.drew = wd at hX hHeld ⊢
          refine wpAnyH_take (i := 0) (oi := { dst := some 136, op := Go.Op.move (Go.Operand.tmp 14), type := 28, pos := "law.go:74", after := #[], guard := none }) (v := ?_) rfl (by kernel_rfl) (by kernel_rfl) (by kernel_rfl) (fun _ _ _ h => h) (Or.inl ⟨by kernel_rfl, ?_⟩) (by assumption) ?_
          rotate_left
          · intro W hSw; go_simp; first | done | with_reducible rfl
          try simp only [Act.put, lsA, lsB, lsC]
          refine wpAnyH_take (i := 1) (oi := { dst := some 137, op := Go.Op.move (Go.Operand.tmp 15), type := 3, pos := "law.go:74", after := #[], guard := none }) (v := ?_) rfl (by kernel_rfl) (by kernel_rfl) (by kernel_rfl) (fun _ _ _ h => h) (Or.inl ⟨by kernel_rfl, ?_⟩) (by assumption) ?_
          rotate_left
          · intro W hSw; go_simp; first | done | with_reducible rfl
          try simp only [Act.put, lsA, lsB, lsC]
          refine wpAnyH_take (i := 2) (oi := { dst := some 138, op := Go.Op.indexAddr 28 (Go.Operand.tmp 136) (Go.Operand.tmp 137), type := 0, pos := "law.go:74", after := #[{ on := 0, ground := Go.Ground.data }, { on := 1, ground := Go.Ground.data }], guard := none }) (v := ?_) rfl (by kernel_rfl) (by kernel_rfl) (by kernel_rfl) (fun _ _ _ h => h) (Or.inl ⟨by kernel_rfl, ?_⟩) (by assumption) ?_
          rotate_left
          · intro W hSw; go_simp; first | done | with_reducible rfl
          try simp only [Act.put, lsA, lsB, lsC]
          refine wpAnyH_take (i := 3) (oi := { dst := some 139, op := Go.Op.load 32 (Go.Operand.tmp 138), type := 32, pos := "law.go:74", after := #[{ on := 2, ground := Go.Ground.data }], guard := none }) (v := ?_) rfl (by kernel_rfl) (by kernel_rfl) (by kernel_rfl) (fun _ _ _ h => h) (Or.inl ⟨by kernel_rfl, ?_⟩) (by assumption) ?_
          rotate_left
          · intro W hSw; go_simp; first | done | with_reducible rfl
          try simp only [Act.put, lsA, lsB, lsC]
          refine wpAnyH_take (i := 4) (oi := { dst := some 140, op := Go.Op.load 32 (Go.Operand.tmp 16), type := 32, pos := "law.go:74", after := #[], guard := none }) (v := ?_) rfl (by kernel_rfl) (by kernel_rfl) (by kernel_rfl) (fun _ _ _ h => h) (Or.inl ⟨by kernel_rfl, ?_⟩) (by assumption) ?_
          rotate_left
          · intro W hSw; go_simp; first | done | with_reducible rfl
          try simp only [Act.put, lsA, lsB, lsC]
          refine wpAnyH_take (i := 5) (oi := { dst := some 141, op := Go.Op.binOp Go.BinOp.neq 32 (Go.Operand.tmp 139) (Go.Operand.tmp 140) 32, type := 4, pos := "law.go:74", after := #[{ on := 3, ground := Go.Ground.data }, { on := 4, ground := Go.Ground.data }], guard := none }) (v := ?_) rfl (by kernel_rfl) (by kernel_rfl) (by kernel_rfl) (fun _ _ _ h => h) (Or.inl ⟨by kernel_rfl, ?_⟩) (by assumption) ?_
          rotate_left
          · intro W hSw; go_simp; first | done | with_reducible rfl
          try simp only [Act.put, lsA, lsB, lsC]
          refine wpAnyH_done (by kernel_rfl) ?_ _
          try simp only [Act.put, lsA, lsB, lsC, List.getElem_toArray, List.getElem_cons_zero, List.getElem_cons_succ]
          refine NoPanic.normal ?_
          (try dsimp only [Exit.then])
          refine hKz.out _ _ ?_
          have hI4 := AsZ.mk (hI.out.below (tBl hZB.out hX.out))
          have hG4 := AsZ.mk (Kd.C_below hG.out (tBl hZB.out hX.out))
          clear hHeld hS0 hS1 hS2 hS3 hS4 hT0 hT1 hT2 hT3 hT4 hne
          go_wp2
          go_roundg (As.length - (m2 + 1))
          case measure => omega
          case rel => exact ⟨m2 + 1, by go_num, by omega, by omega, hI4, hG4⟩
        · have hltz2 : ¬ (m2 : Int) < (As.length : Int) := by omega
          by_cases r0 : 0 ≤ ob ∧ ob < 16
          · have f1 : decide (0 ≤ ob) = true := decide_eq_true r0.1
            have f2 : decide (ob < 16) = true := decide_eq_true r0.2
            obtain ⟨h01, h02⟩ := id r0
            have hq16 : ob.toNat < 16 := by omega
            have hvc := (bCe hI.out.hv ob.toNat).trans (agC_get _ _ _ _ hq16)
            have CV := version_calls ob wr hI.out.hO
            rw [verP, if_pos r0] at CV
            replace CV := AsZ.mk CV
            replace r0 := AsZ.mk r0
            replace hq16 := AsZ.mk hq16
            go_wp2_with (go_at_call 15; refine CV.out.mono ?_; rintro e Y3 ⟨rfl, hb⟩; have hI3 := AsZ.mk (hI.out.below hb); clear hb)
            go_ret
            exact ⟨rfl, hI3.out.hB⟩
          have CV := version_calls ob wr hI.out.hO
          rw [verP, if_neg r0] at CV
          replace CV := AsZ.mk CV
          by_cases h3 : 0 ≤ ob
          all_goals
            first | (have f1 : decide (0 ≤ ob) = true := decide_eq_true h3; have f2 : decide (ob < 16) = false := decide_eq_false (fun h => r0 ⟨h3, h⟩)) | have f1 : decide (0 ≤ ob) = false := decide_eq_false h3
            replace r0 := AsZ.mk r0
            replace h3 := AsZ.mk h3
            go_wp2_with (go_at_call 15; refine CV.out.mono ?_; rintro e Y3 ⟨rfl, hb⟩; have hI3 := AsZ.mk (hI.out.below hb); clear hb)
            go_ret
            exact ⟨rfl, hI3.out.hB⟩
end Go.Proofs.Ytpphnjmppkbpbaa.Org
namespace Go.Proofs.Ytpphnjmppkbpbaa.PAll
open Go.RowKit Go.Proofs.Ytpphnjmppkbpbaa.Xw Go.Proofs.YtpphnjmppkbpbaaW.PrintWords Go.Proofs.YtpphnjmppkbpbaaW.PrintLast Go.Proofs.YtpphnjmppkbpbaaW.PrintMore
theorem spencelaw32_OriginDoes.calls (A0 : Option Addr) (c0 : Nat) (l0 : List S34) (a1 : Int) (r : Bool) (w : World) (hr0 : Kd.C k34 w A0 l0.length l0) (hc0 : l0.length ≤ c0) (h : spencelaw32_OriginDoes.f l0 a1 = some r) :
    Calls Try.prog 3 #[.slice A0 l0.length c0, .int .i64 a1] w fun e w' => e = .returned (.bool r) ∧ Below w.heap.size w w' := by
  obtain rfl := Option.some.inj h
  exact Org.does_law A0 c0 l0 a1 w hr0 hc0
end Go.Proofs.Ytpphnjmppkbpbaa.PAll
namespace Go.Proofs.Ytpphnjmppkbpbaa.Pure
open Go.Proofs.Ytpphnjmppkbpbaa.PAll
theorem OriginDoes (l0 : List S34) (a1 : Int) (_ : l0.length * 64 ≤ 140737488351232) (_ : ∀ x ∈ l0, (Lit.int .i64 x.f0).wf = true ∧ ((Lit.int .i64 x.f1.f0).wf = true ∧ True ∧ x.f1.f2.size ≤ maxLen ∧ ((Lit.int .i64 x.f1.f3.f0).wf = true ∧ (Lit.int .i64 x.f1.f3.f1).wf = true)) ∧ (Lit.int .i64 x.f2).wf = true) (_ : (Lit.int .i64 a1).wf = true) : spencelaw32_OriginDoes.f l0 a1 = some true := rfl
end Go.Proofs.Ytpphnjmppkbpbaa.Pure
namespace Go.Proofs.Ytpphnjmppkbpbaa.originDoes
open Go.ChangeShapes Go.WideShapes Go.ChangeAt Go.RowKit Go.Proofs.Ytpphnjmppkbpbaa.Rd Go.Proofs.Ytpphnjmppkbpbaa.PAll Go.Proofs.YtpphnjmppkbpbaaW.PrintWords
open Go.ChangeMaps (open_string shut_string)
set_option linter.unusedVariables false
theorem own : ownKnob Try.prog.godebug = none := by kernel_rfl
theorem laidOut : laidOutB Try.prog = true := by kernel_rfl
def ok30 (x : S30) : Prop := (Lit.int .i64 x.f0).wf = true ∧ (Lit.int .i64 x.f1).wf = true
theorem o30 : Opens Try.prog 30 k30 ok30 := opens_struct Try.underlying30 (opensF_cons (opens_int Try.underlying3) rfl (by kernel_rfl) rfl (opensF_one (opens_int Try.underlying3) rfl (by kernel_rfl))) (by kernel_rfl) (fun x : S30 => (x.f0, x.f1)) (fun p => ⟨p.1, p.2⟩) (fun _ => rfl)
def ok32 (x : S32) : Prop := (Lit.int .i64 x.f0).wf = true ∧ True ∧ x.f2.size ≤ maxLen ∧ ((Lit.int .i64 x.f3.f0).wf = true ∧ (Lit.int .i64 x.f3.f1).wf = true)
theorem o32 : Opens Try.prog 32 k32 ok32 := opens_struct Try.underlying32 (opensF_cons (opens_int Try.underlying3) rfl (by kernel_rfl) rfl (opensF_cons (opens_bool Try.underlying4) rfl (by kernel_rfl) rfl (opensF_cons (opens_string Try.underlying9) rfl (by kernel_rfl) rfl (opensF_one o30 rfl (by kernel_rfl))))) (by kernel_rfl) (fun x : S32 => (x.f0, x.f1, x.f2, x.f3)) (fun p => ⟨p.1, p.2.1, p.2.2.1, p.2.2.2⟩) (fun _ => rfl)
def ok34 (x : S34) : Prop := (Lit.int .i64 x.f0).wf = true ∧ ((Lit.int .i64 x.f1.f0).wf = true ∧ True ∧ x.f1.f2.size ≤ maxLen ∧ ((Lit.int .i64 x.f1.f3.f0).wf = true ∧ (Lit.int .i64 x.f1.f3.f1).wf = true)) ∧ (Lit.int .i64 x.f2).wf = true
theorem o34 : Opens Try.prog 34 k34 ok34 := opens_struct Try.underlying34 (opensF_cons (opens_int Try.underlying3) rfl (by kernel_rfl) rfl (opensF_cons o32 rfl (by kernel_rfl) rfl (opensF_one (opens_int Try.underlying3) rfl (by kernel_rfl)))) (by kernel_rfl) (fun x : S34 => (x.f0, x.f1, x.f2)) (fun p => ⟨p.1, p.2.1, p.2.2⟩) (fun _ => rfl)
set_option maxRecDepth 100000 in
set_option maxHeartbeats 4000000 in
theorem lifted (os : Os) (started : os.Started) (H : Type) (enc : TypeId × Value → H) :
    ReturnsInHanded {} Try.checked os 3 .any (Rows.originDoesSpec.pre6 enc Try.prog Try.f3 Rows.originDoesRow.domain false) (Rows.originDoesSpec.post enc Try.prog Try.f3 false true false false) := by
  refine returnsInHanded_of_change_sized (C := Try.checked) own started (by kernel_rfl) Try.func3
    (ChangeSpec.witness6 (enc := enc) (C := Try.checked) false ⟨#[], #[.slice none 0 0, .int .i64 0], []⟩ 8 (by kernel_rfl) (by kernel_rfl) (by kernel_rfl) (by kernel_rfl)) ?_
  intro W base args ds gs before hval0 hW hcnd hsz0 _
  have hsz : (DataW.weightsEach Try.prog (Try.f3.params.toList ++ Rows.originDoesSpec.plain.varTypes Try.prog) (ds ++ gs)).all (· ≤ reachBytes) = true := hsz0
  have hval : ∀ (j : Nat) t v, Try.f3.params[j]? = some t → args[j]? = some v → Value.okWide Try.prog W .any base t v := hval0
  have hW' := hW
  obtain ⟨p, q, hA0, hV, rfl, hfz, hnd⟩ := hW
  have hA : DataW.TrodAll enc Try.prog W 0 (fun _ => true) true Try.f3.params.toList args.toList ds p := hA0
  rw [Try.params3] at hA hval hsz
  obtain ⟨v0, vs0, d0, ds0, p0, q0, hargs, rfl, rfl, h0, r0⟩ := trodAll_cons hA
  obtain ⟨v1, vs1, d1, ds1, p1, q1, rfl, rfl, rfl, h1, r1⟩ := trodAll_cons r0
  obtain ⟨rfl, rfl, rfl⟩ := trodAll_nil r1
  obtain rfl : args = #[v0, v1] := by cases args; simp_all
  obtain ⟨rfl, rfl⟩ := trodVars_none hV
  have k0 := h0
  have lt0 : ∀ x ∈ p0, x.block < W.heap.size := by obtain ⟨m, hm⟩ := k0; exact DataW.trod_lt m _ _ _ hm
  have k1 := h1
  have lt1 : ∀ x ∈ p1, x.block < W.heap.size := by obtain ⟨m, hm⟩ := k1; exact DataW.trod_lt m _ _ _ hm
  obtain ⟨A0, c0, l0, rfl, hc0, hC0, hok0, hb0⟩ := open_row Try.underlying22 o34 (by kernel_rfl) (hval 0 22 v0 rfl rfl) h0 hsz (j := 0) rfl rfl (B := 64) (by kernel_rfl)
  obtain ⟨a1, rfl, rfl, rfl, w1⟩ := open_int Try.underlying3 (hval 1 3 v1 rfl rfl) h1
  clear hA0 hval0 hsz0 hsz
  have hk := Pure.OriginDoes l0 a1 hb0 hok0 w1
  refine (PAll.spencelaw32_OriginDoes.calls _ _ l0 a1 true W hC0 hc0 hk).mono fun e W' ⟨he, hd⟩ => ?_
  have bel : Below W.heap.size W W' := hd
  subst he
  exact ⟨_, rfl, _, _, _, [], _, [], hW', trodAll_mk1 (shut_bool Try.underlying4 _), (trodAll_cons_mk (Below.trod laidOut (by kernel_rfl) (of_decide_eq_true (by kernel_rfl)) k0 bel lt0) (trodAll_cons_mk (shut_int Try.underlying3 w1) trodAll_mk0)), rfl, bel.frame _, fun h => by cases h⟩
theorem over : Rows.originDoesRow.holds Try.pinned (OpenSpec.ofChange Rows.originDoesSpec) :=
  OpenClaim.holds_of_wide 3 Try.f3 rfl rfl rfl rfl rfl rfl rfl ⟨rfl, rfl, rfl, rfl, rfl⟩ rfl rfl rfl rfl rfl (by kernel_rfl) Try.func3 (by kernel_rfl)
    (of_decide_eq_true (by kernel_rfl)) (by unfold Func.isWrapper; first | (rw [if_pos (by decide +kernel)]; kernel_rfl) | (rw [if_neg (by decide +kernel)]; exact ⟨rfl, rfl⟩))
    (fun os started H enc _ => lifted os started H enc)
theorem proved : Rows.OriginDoesSaid := over
end Go.Proofs.Ytpphnjmppkbpbaa.originDoes
namespace Go.Proofs.Ytpphnjmppkbpbaa
theorem originDoes_holds : Rows.OriginDoesSaid := originDoes.proved
#print axioms originDoes_holds
end Go.Proofs.Ytpphnjmppkbpbaa
