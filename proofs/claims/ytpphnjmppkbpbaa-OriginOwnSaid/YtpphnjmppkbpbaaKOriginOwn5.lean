/- The law OriginOwn: for every input the call returns true, and each argument reads behind the call as it read before. No condition. (The row, and the plain law ahead of it.) -/
import Derived.Test.YtpphnjmppkbpbaaKOriginOwn4
import Derived.Test.YtpphnjmppkbpbaaKOriginOwn3
import Derived.Test.YtpphnjmppkbpbaaRows
import Derived.Test.YtpphnjmppkbpbaaKOriginOwn1
import Derived.WalkKit
import Derived.ProofKit
import Derived.OpenShut
import Derived.ShutString
import Derived.ChangeOld
import Derived.Below
import Derived.SizedLaws
namespace Go.Proofs.Ytpphnjmppkbpbaa.Org
open Go Go.RowKit Go.Proofs Go.Proofs.Ytpphnjmppkbpbaa.Xw Go.Proofs.Ytpphnjmppkbpbaa.PAll Go.Proofs.Ytpphnjmppkbpbaa.Ag Go.Proofs.YtpphnjmppkbpbaaW.PrintWords Go.Proofs.YtpphnjmppkbpbaaW.PrintLast Go.Proofs.YtpphnjmppkbpbaaW.PrintMore
attribute [local go_sem] Oper.semAt_some
set_option linter.unusedSimpArgs false
set_option linter.unusedVariables false
attribute [local go_sem ↓] zero_org
def ldArr (v : Value) : Sem Value := Instr.loadAt 26 v
theorem ldArr_eq (v : Value) : Instr.loadAt 26 v = ldArr v := rfl
theorem info_arr : (Try.prog.info? 26).map (·.size) = some 16 := by kernel_rfl
theorem Org.ldArr {w : World} {base g : Nat} {P : Nat → Prop} {V : Nat → Int} {F : List Int} {A : List AK} {vf va : Value} (h : Org w base P g V F A vf va) : (ldArr (.pointer (some ⟨g, 0, none⟩))).run Try.prog w = .ok (.agg (agC .i64 16 V)) w := by
  have hl : (loadVar 26 ⟨g, 0, none⟩).run Try.prog w = .ok (.agg (agC .i64 16 V)) w := by
    refine run_loadVar_mid w g 0 26 (agC .i64 16 V).toList _ ?_ Try.underlying26 rfl (by rw [info_arr]; simp [agC])
    intro j v hv
    rw [Nat.zero_add]
    rw [Array.getElem?_toList] at hv
    have hj : j < 16 := by have := (Array.getElem?_eq_some_iff.1 hv).1; rwa [agC_size] at this
    rw [h.cellI hj, ← hv, agC_get _ _ _ _ hj]
  simp only [Go.Proofs.Ytpphnjmppkbpbaa.Org.ldArr, Instr.loadAt, Instr.sureAddr, Sem.run_bind, Sem.run_pure, Result.andThen_ok, hl]
attribute [local go_sem ↓] ldArr_eq
theorem wp_build_to {P : Program} {o : Oper} {a : Act} {w : World} {K : Act → World → Prop} {Q : Exit → Act → World → Prop} (t : TypeId) (parts : Array (Nat × Operand)) (ho : o.op = .build t parts) (cells : Array Value)
    (hc : P.built t (parts.map fun (i, x) => (i, a.eval x)).toList = some cells) (h : K (a.put o.dst (.agg cells)) w) : o.wp P a w K Q := by
  unfold Oper.wp execOp
  simp only [ho, Sem.run_bind, run_build w t _ cells hc, Result.andThen_ok]
  exact h
set_option maxHeartbeats 8000000 in
set_option maxRecDepth 100000 in
theorem copy_calls {base g : Nat} {P : Nat → Prop} {V : Nat → Int} {F : List Int} {A : List AK} (w : World) (h : OrgX w base P g V F A) (hF : F.length ≤ 1000000) (hA : A.length ≤ 1000000) :
    Calls Try.prog 16 #[.pointer (some ⟨g, 0, none⟩)] w fun e w' => ∃ Q g', e = .returned (.pointer (some ⟨g', 0, none⟩)) ∧ OrgX w' w.heap.size Q g' V F A ∧ Below w.heap.size w w' := by
  obtain ⟨vf, va, h⟩ := h
  obtain ⟨A1, c1, rfl, hl1, hC1⟩ := Kd.R_reads h.hF
  obtain ⟨A2, c2, rfl, hl2, hC2⟩ := Kd.R_reads h.hA
  have hSi : ∀ X, KeepP w (fun _ => False) X → (ldArr (.pointer (some ⟨g, 0, none⟩))).run Try.prog X = .ok (.agg (agC .i64 16 V)) X := fun X hk => (h.keep hk (fun _ _ h => h)).ldArr
  have hSf : ∀ X, KeepP w (fun _ => False) X → X.cell? ⟨g, 16, none⟩ = some (.slice A1 F.length c1) := fun X hk => (h.keep hk (fun _ _ h => h)).cellF
  have hSa : ∀ X, KeepP w (fun _ => False) X → X.cell? ⟨g, 17, none⟩ = some (.slice A2 A.length c2) := fun X hk => (h.keep hk (fun _ _ h => h)).cellA
  replace h := Aside0.mk h
  replace hF := Aside0.mk hF
  replace hA := Aside0.mk hA
  replace hC1 := Aside0.mk hC1
  replace hC2 := Aside0.mk hC2
  replace hl1 := Aside0.mk hl1
  replace hl2 := Aside0.mk hl2
  go_enter Try.func16, Try.ntmps16
  go_wp2
  rename_i Kz hKz
  replace hKz := Aside0.mk hKz
  have hBd := Aside0.mk (below_drew (Below.refl w.heap.size w))
  have hX := Aside0.mk (KeepP.of_below (P := fun _ => False) hBd.out)
  refine wp_region_noPanic ?_
  refine wp_region_held_drew (S := fun X => KeepP w (fun _ => False) X) (by kernel_rfl) hX.out (fun hHeld => ?_)
  generalize w.drew = wd at hX hBd hHeld ⊢
  refine wpAnyH_take (i := 0) (oi := { dst := some 5, op := Go.Op.move (Go.Operand.tmp 0), type := 24, pos := "origin.go:29", after := #[], guard := none }) (v := ?_) rfl (by kernel_rfl) (by kernel_rfl) (by kernel_rfl) (fun _ _ _ h => h) (Or.inl ⟨by kernel_rfl, ?_⟩) (by assumption) ?_
  rotate_left
  · intro W hSw; go_simp; first | done | with_reducible rfl
  try simp only [Act.put, List.setIfInBounds_toArray, List.set_cons_zero, List.set_cons_succ]
  refine wpAnyH_take (i := 1) (oi := { dst := some 6, op := Go.Op.nilCheck (Go.Operand.tmp 5), type := 0, pos := "origin.go:29", after := #[{ on := 0, ground := Go.Ground.data }], guard := none }) (v := ?_) rfl (by kernel_rfl) (by kernel_rfl) (by kernel_rfl) (fun _ _ _ h => h) (Or.inl ⟨by kernel_rfl, ?_⟩) (by assumption) ?_
  rotate_left
  · intro W hSw; go_simp; first | done | with_reducible rfl
  try simp only [Act.put, List.setIfInBounds_toArray, List.set_cons_zero, List.set_cons_succ]
  refine wpAnyH_take (i := 2) (oi := { dst := some 7, op := Go.Op.fieldAddr 51 (Go.Operand.tmp 6) 0, type := 0, pos := "origin.go:29", after := #[{ on := 1, ground := Go.Ground.data }], guard := none }) (v := ?_) rfl (by kernel_rfl) (by kernel_rfl) (by kernel_rfl) (fun _ _ _ h => h) (Or.inl ⟨by kernel_rfl, ?_⟩) (by assumption) ?_
  rotate_left
  · intro W hSw; go_simp; first | done | with_reducible rfl
  try simp only [Act.put, List.setIfInBounds_toArray, List.set_cons_zero, List.set_cons_succ]
  refine wpAnyH_take (i := 3) (oi := { dst := some 8, op := Go.Op.load 26 (Go.Operand.tmp 7), type := 26, pos := "origin.go:29", after := #[{ on := 2, ground := Go.Ground.data }], guard := none }) (v := ?_) rfl (by kernel_rfl) (by kernel_rfl) (by kernel_rfl) (fun _ _ _ h => h) (Or.inl ⟨by kernel_rfl, ?_⟩) (by assumption) ?_
  rotate_left
  · intro W hSw; go_simp; first | done | with_reducible rfl
  try simp only [Act.put, List.setIfInBounds_toArray, List.set_cons_zero, List.set_cons_succ]
  refine wpAnyH_take (i := 4) (oi := { dst := some 9, op := Go.Op.move (Go.Operand.tmp 0), type := 24, pos := "origin.go:29", after := #[], guard := none }) (v := ?_) rfl (by kernel_rfl) (by kernel_rfl) (by kernel_rfl) (fun _ _ _ h => h) (Or.inl ⟨by kernel_rfl, ?_⟩) (by assumption) ?_
  rotate_left
  · intro W hSw; go_simp; first | done | with_reducible rfl
  try simp only [Act.put, List.setIfInBounds_toArray, List.set_cons_zero, List.set_cons_succ]
  refine wpAnyH_take (i := 5) (oi := { dst := some 10, op := Go.Op.nilCheck (Go.Operand.tmp 9), type := 0, pos := "origin.go:29", after := #[{ on := 4, ground := Go.Ground.data }], guard := none }) (v := ?_) rfl (by kernel_rfl) (by kernel_rfl) (by kernel_rfl) (fun _ _ _ h => h) (Or.inl ⟨by kernel_rfl, ?_⟩) (by assumption) ?_
  rotate_left
  · intro W hSw; go_simp; first | done | with_reducible rfl
  try simp only [Act.put, List.setIfInBounds_toArray, List.set_cons_zero, List.set_cons_succ]
  refine wpAnyH_take (i := 6) (oi := { dst := some 11, op := Go.Op.fieldAddr 51 (Go.Operand.tmp 10) 1, type := 0, pos := "origin.go:29", after := #[{ on := 5, ground := Go.Ground.data }], guard := none }) (v := ?_) rfl (by kernel_rfl) (by kernel_rfl) (by kernel_rfl) (fun _ _ _ h => h) (Or.inl ⟨by kernel_rfl, ?_⟩) (by assumption) ?_
  rotate_left
  · intro W hSw; go_simp; first | done | with_reducible rfl
  try simp only [Act.put, List.setIfInBounds_toArray, List.set_cons_zero, List.set_cons_succ]
  refine wpAnyH_take (i := 7) (oi := { dst := some 12, op := Go.Op.load 27 (Go.Operand.tmp 11), type := 27, pos := "origin.go:29", after := #[{ on := 6, ground := Go.Ground.data }], guard := none }) (v := ?_) rfl (by kernel_rfl) (by kernel_rfl) (by kernel_rfl) (fun _ _ _ h => h) (Or.inl ⟨by kernel_rfl, ?_⟩) (by assumption) ?_
  rotate_left
  · intro W hSw; go_simp; first | done | with_reducible rfl
  try simp only [Act.put, List.setIfInBounds_toArray, List.set_cons_zero, List.set_cons_succ]
  refine wpAnyH_take (i := 9) (oi := { dst := some 14, op := Go.Op.move (Go.Operand.tmp 0), type := 24, pos := "origin.go:29", after := #[], guard := none }) (v := ?_) rfl (by kernel_rfl) (by kernel_rfl) (by kernel_rfl) (fun _ _ _ h => h) (Or.inl ⟨by kernel_rfl, ?_⟩) (by assumption) ?_
  rotate_left
  · intro W hSw; go_simp; first | done | with_reducible rfl
  try simp only [Act.put, List.setIfInBounds_toArray, List.set_cons_zero, List.set_cons_succ]
  refine wpAnyH_take (i := 10) (oi := { dst := some 15, op := Go.Op.nilCheck (Go.Operand.tmp 14), type := 0, pos := "origin.go:29", after := #[{ on := 9, ground := Go.Ground.data }], guard := none }) (v := ?_) rfl (by kernel_rfl) (by kernel_rfl) (by kernel_rfl) (fun _ _ _ h => h) (Or.inl ⟨by kernel_rfl, ?_⟩) (by assumption) ?_
  rotate_left
  · intro W hSw; go_simp; first | done | with_reducible rfl
  try simp only [Act.put, List.setIfInBounds_toArray, List.set_cons_zero, List.set_cons_succ]
  refine wpAnyH_take (i := 11) (oi := { dst := some 16, op := Go.Op.fieldAddr 51 (Go.Operand.tmp 15) 2, type := 0, pos := "origin.go:29", after := #[{ on := 10, ground := Go.Ground.data }], guard := none }) (v := ?_) rfl (by kernel_rfl) (by kernel_rfl) (by kernel_rfl) (fun _ _ _ h => h) (Or.inl ⟨by kernel_rfl, ?_⟩) (by assumption) ?_
  rotate_left
  · intro W hSw; go_simp; first | done | with_reducible rfl
  try simp only [Act.put, List.setIfInBounds_toArray, List.set_cons_zero, List.set_cons_succ]
  refine wpAnyH_take (i := 12) (oi := { dst := some 17, op := Go.Op.load 28 (Go.Operand.tmp 16), type := 28, pos := "origin.go:29", after := #[{ on := 11, ground := Go.Ground.data }], guard := none }) (v := ?_) rfl (by kernel_rfl) (by kernel_rfl) (by kernel_rfl) (fun _ _ _ h => h) (Or.inl ⟨by kernel_rfl, ?_⟩) (by assumption) ?_
  rotate_left
  · intro W hSw; go_simp; first | done | with_reducible rfl
  try simp only [Act.put, List.setIfInBounds_toArray, List.set_cons_zero, List.set_cons_succ]
  refine wpAnyH_ready (rs := [8]) (by kernel_rfl) (by simp) ?_
  refine AllReadyH.cons (o := { dst := some 13, op := Go.Op.call { callee := Go.Callee.value (Go.Operand.func 29), args := #[Go.Operand.tmp 12], argTypes := #[27] }, type := 27, pos := "origin.go:29", after := #[{ on := 7, ground := Go.Ground.data }], guard := none }) rfl (fun K hK => ?_) AllReadyH.nil
  refine goes_ (N := some 13) («as» := #[.tmp 12]) Try.func29 (by kernel_rfl) rfl #[.slice A1 F.length c1] (by kernel_rfl) rfl rfl (by kernel_rfl) ?_
  refine (cloneI_calls A1 c1 F _ (Kd.C_below hC1.out hBd.out) hF.out).mono ?_
  rintro e Y ⟨v1, rfl, hR1, hb⟩
  refine ⟨_, rfl, ?_⟩
  obtain ⟨A3, c3, rfl⟩ := Kd.R_slice hR1
  have hBY := Aside0.mk (below_step hBd.out hb)
  replace hR1 := Aside0.mk hR1
  clear hb
  refine hK.out _ _ ?_ (fun hHeld => ?_)
  · exact KeepP.of_below hBY.out
  clear hK K
  try simp only [Act.put, List.setIfInBounds_toArray, List.set_cons_zero, List.set_cons_succ]
  refine wpAnyH_ready (rs := [13]) (by kernel_rfl) (by simp) ?_
  refine AllReadyH.cons (o := { dst := some 18, op := Go.Op.call { callee := Go.Callee.value (Go.Operand.func 31), args := #[Go.Operand.tmp 17], argTypes := #[28] }, type := 28, pos := "origin.go:29", after := #[{ on := 12, ground := Go.Ground.data }, { on := 8, ground := Go.Ground.chain }], guard := none }) rfl (fun K hK => ?_) AllReadyH.nil
  refine goes_ (N := some 18) («as» := #[.tmp 17]) Try.func31 (by kernel_rfl) rfl #[.slice A2 A.length c2] (by kernel_rfl) rfl rfl (by kernel_rfl) ?_
  refine (cloneA_calls A2 c2 A _ (Kd.C_below hC2.out hBY.out) hA.out).mono ?_
  rintro e Z ⟨v2, rfl, hR2, hb⟩
  refine ⟨_, rfl, ?_⟩
  obtain ⟨A4, c4, rfl⟩ := Kd.R_slice hR2
  have hBZ := Aside0.mk (below_step hBY.out hb)
  replace hR2 := Aside0.mk hR2
  replace hb := Aside0.mk hb
  refine hK.out _ _ ?_ (fun hHeld => ?_)
  · exact KeepP.of_below hBZ.out
  clear hK K
  try simp only [Act.put, List.setIfInBounds_toArray, List.set_cons_zero, List.set_cons_succ]
  refine wpAnyH_ready (rs := [14]) (by kernel_rfl) (by simp) ?_
  refine AllReadyH.cons (o := { dst := some 19, op := Go.Op.build 51 #[(0, Go.Operand.tmp 8), (1, Go.Operand.tmp 13), (2, Go.Operand.tmp 18)], type := 51, pos := "origin.go:29", after := #[{ on := 3, ground := Go.Ground.data }, { on := 8, ground := Go.Ground.data }, { on := 13, ground := Go.Ground.data }], guard := none }) rfl (fun K hK => ?_) AllReadyH.nil
  rw [if_pos (by kernel_rfl)]
  refine wp_build_to 51 #[(0, .tmp 8), (1, .tmp 13), (2, .tmp 18)] rfl (orgC V (.slice A3 F.length c3) (.slice A4 A.length c4)) (by kernel_rfl) ?_
  refine hK.out _ _ ?_ (fun hHeld => ?_)
  · exact KeepP.of_below hBZ.out
  clear hK K
  try simp only [Act.put, List.setIfInBounds_toArray, List.set_cons_zero, List.set_cons_succ]
  refine wpAnyH_ready (rs := [15]) (by kernel_rfl) (by simp) ?_
  refine AllReadyH.cons (o := { dst := some 20, op := Go.Op.box 51 (Go.Operand.tmp 19), type := 24, pos := "origin.go:29", after := #[{ on := 14, ground := Go.Ground.data }], guard := none }) rfl (fun K hK => ?_) AllReadyH.nil
  go_simp
  refine hK.out _ _ ?_ (fun hHeld => ?_)
  · exact (KeepP.of_below hBZ.out).alloc _
  clear hK K
  try simp only [Act.put, List.setIfInBounds_toArray, List.set_cons_zero, List.set_cons_succ]
  refine wpAnyH_take (i := 16) (oi := { dst := some 2, op := Go.Op.assign (Go.Operand.tmp 20), type := 24, pos := "origin.go:29", after := #[{ on := 15, ground := Go.Ground.data }, { on := 13, ground := Go.Ground.chain }, { on := 0, ground := Go.Ground.phase }, { on := 1, ground := Go.Ground.phase }, { on := 2, ground := Go.Ground.phase }, { on := 3, ground := Go.Ground.phase }, { on := 4, ground := Go.Ground.phase }, { on := 5, ground := Go.Ground.phase }, { on := 6, ground := Go.Ground.phase }, { on := 7, ground := Go.Ground.phase }, { on := 8, ground := Go.Ground.phase }, { on := 9, ground := Go.Ground.phase }, { on := 10, ground := Go.Ground.phase }, { on := 11, ground := Go.Ground.phase }, { on := 12, ground := Go.Ground.phase }, { on := 13, ground := Go.Ground.phase }, { on := 14, ground := Go.Ground.phase }, { on := 15, ground := Go.Ground.phase }], guard := none }) (v := ?_) rfl (by kernel_rfl) (by kernel_rfl) (by kernel_rfl) (fun _ _ _ h => h) (Or.inl ⟨by kernel_rfl, ?_⟩) (by assumption) ?_
  rotate_left
  · intro W hSw; go_simp; first | done | with_reducible rfl
  try simp only [Act.put, List.setIfInBounds_toArray, List.set_cons_zero, List.set_cons_succ]
  refine wpAnyH_done (by kernel_rfl) ?_ _
  try simp only [Act.put, List.setIfInBounds_toArray, List.set_cons_zero, List.set_cons_succ, List.getElem_toArray, List.getElem_cons_zero, List.getElem_cons_succ]
  refine NoPanic.normal ?_
  (try dsimp only [Exit.then])
  refine hKz.out _ _ ?_
  clear hHeld
  have hsz := alloc_size Z (.cells (orgC V (.slice A3 F.length c3) (.slice A4 A.length c4)) 51 (0, 0))
  have hal := below_alloc (Below.refl Z.heap.size Z) (.cells (orgC V (.slice A3 F.length c3) (.slice A4 A.length c4)) 51 (0, 0))
  have hnw := blk_new Z (.cells (orgC V (.slice A3 F.length c3) (.slice A4 A.length c4)) 51 (0, 0))
  replace hsz := Aside0.mk hsz
  replace hal := Aside0.mk hal
  replace hnw := Aside0.mk hnw
  go_wp2
  go_ret
  refine ⟨fun k => w.heap.size ≤ k ∧ k < Z.heap.size + 1, Z.heap.size, rfl, ⟨_, _, ⟨fun k hk => hk.1, fun k hk => by rw [hsz.out]; exact hk.2, ⟨hBZ.out.size, by omega⟩, hnw.out, ?_, ?_⟩⟩, below_step hBZ.out hal.out⟩
  · refine Kd.R_mono (Kd.R_bound (Kd.R_lower (Kd.R_below (Kd.R_below hR1.out hb.out) hal.out) hBd.out.size)) (fun k hk => ⟨hk.2.1, by have := hk.2.2.1; rw [hsz.out] at this; exact this⟩)
  · refine Kd.R_mono (Kd.R_bound (Kd.R_lower (Kd.R_below hR2.out hal.out) hBY.out.size)) (fun k hk => ⟨hk.2.1, by have := hk.2.2.1; rw [hsz.out] at this; exact this⟩)
end Go.Proofs.Ytpphnjmppkbpbaa.Org
namespace Go.Proofs.Ytpphnjmppkbpbaa.Org
open Go Go.RowKit Go.Proofs Go.Proofs.Ytpphnjmppkbpbaa.Xw Go.Proofs.Ytpphnjmppkbpbaa.PAll Go.Proofs.Ytpphnjmppkbpbaa.Ag Go.Proofs.Ytpphnjmppkbpbaa.Pure Go.Proofs.YtpphnjmppkbpbaaW.PrintWords Go.Proofs.YtpphnjmppkbpbaaW.PrintLast Go.Proofs.YtpphnjmppkbpbaaW.PrintMore
attribute [local go_sem] Oper.semAt_some status_run
set_option linter.unusedSimpArgs false
set_option linter.unusedVariables false
/-- Turn, whatever the object -/
theorem turn_any {base g : Nat} {P : Nat → Prop} {V : Nat → Int} {F : List Int} {A : List AK} (m : Nat) (o : Int) (w : World) (h : OrgX w base P g V F A) (hv : ∀ j, 0 ≤ V j ∧ V j ≤ m) (hm : m < 1000000) :
    Calls Try.prog 7 #[.pointer (some ⟨g, 0, none⟩), .int .i64 o] w fun e w' => ∃ k V', e = .returned (.int .i64 k) ∧ (∀ j, 0 ≤ V' j ∧ V' j ≤ ((m + 1 : Nat) : Int)) ∧ OrgX w' base P g V' F A ∧ KeepP w P w' := by
  by_cases h0 : 0 ≤ o ∧ o < 16
  · refine (turn_calls o w h h0 ⟨(hv _).1, by have := (hv o.toNat).2; omega⟩).mono ?_
    rintro e w' ⟨rfl, hO, hK⟩
    refine ⟨_, _, rfl, fun j => ?_, hO, hK⟩
    have h1 := hv j
    have h2 := hv o.toNat
    unfold putF
    split <;> (push_cast; omega)
  · refine (turn_not o w h h0).mono ?_
    rintro e w' ⟨rfl, hb⟩
    refine ⟨_, V, rfl, fun j => ?_, h.below hb, .of_below hb⟩
    have h1 := hv j
    push_cast
    omega
set_option maxHeartbeats 16000000 in
set_option maxRecDepth 100000 in
theorem own_law (A : Option Addr) (c : Nat) (l : List Int) (a : AK) (w : World) (hC : (Kd.int .i64).C w A l.length l) (hc : l.length ≤ c) :
    Calls Try.prog 4 #[.slice A l.length c, askV a] w fun e w' => e = .returned (.bool true) ∧ Below w.heap.size w w' := by
  have hu40 := Try.underlying40
  have HW0 := Aside0.mk (below_alloc (Below.refl w.heap.size w) (askO a))
  have HA := Aside0.mk (blk_new w (askO a))
  obtain ⟨W1, hW1⟩ : ∃ X, w.alloc (askO a) = X := ⟨_, rfl⟩
  have hsz : W1.heap.size = w.heap.size + 1 := by rw [← hW1, alloc_size]
  rw [hW1] at HW0 HA
  have CAw := Aside0.mk (awake_calls W1)
  have q5 := ask_cells HA.out
  unfold askO at hW1
  replace hC := Aside0.mk (Kd.C_below hC HW0.out)
  replace hsz := Aside0.mk hsz
  replace hW1 := Aside0.mk hW1
  unfold askV
  by_cases g1 : (l.length : Int) > 40
  · have d1 : decide ((l.length : Int) > 40) = true := decide_eq_true g1
    have d1' : decide (40 < (l.length : Int)) = true := decide_eq_true g1
    replace g1 := Aside0.mk g1
    clear q5
    go_enter Try.func4, Try.ntmps4
    go_wp2_with (go_at_call 5; rw [hW1.out]; refine CAw.out.mono ?_; rintro e X1 ⟨rfl, hb1⟩; replace hb1 := Aside0.mk hb1)
    go_ret
    exact ⟨rfl, below_step HW0.out hb1.out⟩
  have d1 : decide ((l.length : Int) > 40) = false := decide_eq_false g1
  have d1' : decide (40 < (l.length : Int)) = false := decide_eq_false g1
  by_cases g2 : (a.f2.size : Int) > 100
  · have d2 : decide ((a.f2.size : Int) > 100) = true := decide_eq_true g2
    have d2' : decide (100 < (a.f2.size : Int)) = true := decide_eq_true g2
    replace g1 := Aside0.mk g1
    replace g2 := Aside0.mk g2
    clear q5
    go_enter Try.func4, Try.ntmps4
    go_wp2_with (go_at_call 5; rw [hW1.out]; refine CAw.out.mono ?_; rintro e X1 ⟨rfl, hb1⟩; obtain ⟨q0, q1, q2, q3, q4⟩ := ask_cells (blk_below HA.out hb1); replace hb1 := Aside0.mk hb1)
    go_ret
    exact ⟨rfl, below_step HW0.out hb1.out⟩
  have d2 : decide ((a.f2.size : Int) > 100) = false := decide_eq_false g2
  have d2' : decide (100 < (a.f2.size : Int)) = false := decide_eq_false g2
  clear q5
  replace g2 := Aside0.mk g2
  have hl40 : l.length ≤ 40 := by omega
  replace g1 := Aside0.mk g1
  have hl40 := Aside0.mk hl40
  go_enter Try.func4, Try.ntmps4
  go_wp2_with (first
    | (go_at_call 5; rw [hW1.out]; refine CAw.out.mono ?_; rintro e X1 ⟨rfl, hb1⟩; obtain ⟨q0, q1, q2, q3, q4⟩ := ask_cells (blk_below HA.out hb1); replace hb1 := Aside0.mk hb1)
    | (go_at_call 8; refine (fault_nil _ _ _ _).mono ?_; rintro e X2 ⟨rfl, hb⟩; have hb2 := Aside0.mk (below_step (below_alloc hb1.out _) hb); clear hb q0 q1 q2 q3 q4; obtain ⟨q0, q1, q2, q3, q4⟩ := ask_cells (blk_below HA.out hb2.out))
    | (go_at_call 12; refine (serve_nil a X2).mono ?_; rintro e X3 ⟨s2, s3, s4, v5, rfl, hb⟩; have hb3 := Aside0.mk (below_step hb2.out hb); clear hb q0 q1 q2 q3 q4)
    | (go_at_call 7; refine (turn_nil _ _).mono ?_; rintro e X4 ⟨rfl, hb⟩; have hb4 := Aside0.mk (below_step hb3.out hb); clear hb)
    | (go_at_call 15; refine (version_nil _ _).mono ?_; rintro e X5 ⟨rfl, hb⟩; have hb5 := Aside0.mk (below_step hb4.out hb); clear hb)
    | (go_at_call 13; refine (asked_nil _).mono ?_; rintro e X6 ⟨rfl, hb⟩; have hb6 := Aside0.mk (below_step hb5.out hb); clear hb)
    | (go_at_call 14; refine (faults_nil _).mono ?_; rintro e X7 ⟨rfl, hb⟩; have hb7 := Aside0.mk (below_step hb6.out hb); clear hb)
    | (go_at_call 16; refine (copy_nil _).mono ?_; rintro e X8 ⟨rfl, hb⟩; have hb8 := Aside0.mk (below_step hb7.out hb); clear hb)
    | (go_at_call 6; refine (new_calls _).mono ?_; rintro e X9 ⟨rfl, hO9, hb⟩; have hb9 := Aside0.mk (below_step hb8.out hb); have hg9 := Aside0.mk (show W1.heap.size ≤ X8.heap.size from hb8.out.size); replace hO9 := Aside0.mk (hO9.lower hb8.out.size); clear hb))
  generalize X8.heap.size = g at hO9 hg9 ⊢
  clear hb1 hb2 hb3 hb4 hb5 hb6 hb7 hb8
  go_loopg [59] l.length (fun gg v59 wr => ∃ (m : Nat) (V : Nat → Int), v59 = .int .i64 m ∧ m ≤ l.length ∧ l.length - m ≤ gg ∧ Aside0 (∀ j, 0 ≤ V j ∧ V j ≤ m) ∧ Aside0 (OrgX wr W1.heap.size (fun k => k = g) g V [] []) ∧ Aside0 (Below W1.heap.size W1 wr))
  case atStart => exact ⟨0, vz, rfl, by omega, by omega, ⟨fun j => by simp [vz]⟩, hO9, hb9⟩
  case round =>
    clear hO9 hb9
    obtain ⟨m, V, rfl, hml, hgg, hV, hO, hB⟩ := hrel
    by_cases hlt : m < l.length
    · have hltz : (m : Int) < (l.length : Int) := by omega
      obtain ⟨ad, rfl, hx⟩ := Kd.at_int (Kd.C_below hC.out hB.out) (m : Int) (by omega) (by omega)
      simp only [Int.toNat_natCast] at hx
      have CT := Aside0.mk (turn_any m (rd l m) wr hO.out hV.out (by have := hl40.out; omega))
      go_wp2_with (go_at_call 7; refine CT.out.mono ?_; rintro e wt ⟨k, V', rfl, hV', hO', hK'⟩; replace hV' := Aside0.mk hV'; replace hO' := Aside0.mk hO'; replace hK' := Aside0.mk hK')
      go_roundg (l.length - (m + 1))
      case measure => omega
      case rel => exact ⟨m + 1, V', by go_num, by omega, by omega, hV', hO', ⟨hK'.out.below hB.out hB.out.size (fun k hk => hO.out.ge hk)⟩⟩
    · have hltz : ¬ (m : Int) < (l.length : Int) := by omega
      obtain ⟨q0, q1, q2, q3, q4⟩ := ask_cells (blk_below HA.out hB.out)
      have CC := Aside0.mk (copy_calls wr hO.out (by simp) (by simp))
      have hgw := Aside0.mk (hO.out.lt (k := g) rfl)
      have q5 : True := trivial
      go_wp2_with (first
        | (go_at_call 16; refine CC.out.mono ?_; rintro e Y1 ⟨Q, g', rfl, hQ, hb⟩; have hY1 := Aside0.mk (below_step hB.out hb); have hO1 := Aside0.mk (hO.out.below hb); have hdis : Aside0 (∀ k, Q k → ¬ k = g) := ⟨fun k hk e => by have := hQ.ge hk; have := hgw.out; omega⟩; clear hb CC q0 q1 q2 q3 q4; obtain ⟨q0, q1, q2, q3, q4⟩ := ask_cells (blk_below HA.out hY1.out); have hQ1 := Aside0.mk hQ; clear hQ)
        | (go_at_call 15; refine (version_calls a.f0 Y1 hQ1.out).mono ?_; rintro e Y2 ⟨rfl, hb⟩; have hY2 := Aside0.mk (below_step hY1.out hb); have hO2 := Aside0.mk (hO1.out.below hb); have hQ2 := Aside0.mk (hQ1.out.below hb); clear hb hO1 hQ1 q0 q1 q2 q3 q4; obtain ⟨q0, q1, q2, q3, q4⟩ := ask_cells (blk_below HA.out hY2.out))
        | (go_at_call 7; refine (turn_any m a.f0 Y2 hO2.out hV.out (by have := hl40.out; omega)).mono ?_; rintro e Y3 ⟨k3, V3, rfl, hV3, hO, hK⟩; have hY3 := Aside0.mk (hK.below hY2.out hY2.out.size (fun k hk => hO2.out.ge hk)); have hO3 := Aside0.mk hO; have hQ3 := Aside0.mk (hQ2.out.keep hK hdis.out); clear hO hK hV3 hO2 hQ2)
        | (go_at_call 8; refine (fault_calls _ 1 [1] _ (hO3.out.below (below_alloc (Below.refl _ _) _)) (one_C Y3 1) (by simp)).mono ?_; rintro e Y4 ⟨rfl, hO, hK⟩; have hY4 := Aside0.mk (hK.below (below_alloc hY3.out _) (below_alloc hY3.out (.cells #[.int .i64 1] 3 (0, 0))).size (fun k hk => hO3.out.ge hk)); have hO4 := Aside0.mk hO; have hQ4 := Aside0.mk ((hQ3.out.below (below_alloc (Below.refl _ _) _)).keep hK hdis.out); clear hO hK q0 q1 q2 q3 q4; obtain ⟨q0, q1, q2, q3, q4⟩ := ask_cells (blk_below HA.out hY4.out))
        | (go_at_call 12; refine (serve_calls a Y4 hO4.out (by simp) (by simp)).mono ?_; rintro e Y5 ⟨u, rfl, ⟨Au, cu, rfl, hlu, hCu⟩, hO, hK⟩; have hY5 := Aside0.mk (hK.below hY4.out hY4.out.size (fun k hk => hO4.out.ge hk)); have hQ5 := Aside0.mk (hQ4.out.keep hK (fun k hk hp => hp.1.elim (hdis.out k hk) (fun hl => by have := hQ3.out.lt hk; rw [alloc_size] at hl; omega))); clear hO hK hlu hCu hO3 hO4 hQ3 hQ4 q0 q1 q2 q3 q4; obtain ⟨q0, q1, q2, q3, q4⟩ := ask_cells (blk_below HA.out hY5.out))
        | (go_at_call 15; refine (version_calls a.f0 Y5 hQ5.out).mono ?_; rintro e Y6 ⟨rfl, hb⟩; have hY6 := Aside0.mk (below_step hY5.out hb); have hQ6 := Aside0.mk (hQ5.out.below hb); clear hb hQ5)
        | (go_at_call 14; refine (faults_calls Y6 hQ6.out).mono ?_; rintro e Y7 ⟨rfl, hb⟩; rw [List.length_nil]; have hY7 := Aside0.mk (below_step hY6.out hb); have hQ7 := Aside0.mk (hQ6.out.below hb); clear hb hQ6)
        | (go_at_call 13; refine (asked_calls (by simp) Y7 hQ7.out).mono ?_; rintro e Y8 ⟨v, rfl, hR, hb⟩; obtain ⟨A8, c8, rfl⟩ := Kd.R_slice hR; rw [List.length_nil]; have hY8 := Aside0.mk (below_step hY7.out hb); clear hb hR hQ7))
      go_ret
      exact ⟨rfl, below_step HW0.out hY8.out⟩
end Go.Proofs.Ytpphnjmppkbpbaa.Org
namespace Go.Proofs.Ytpphnjmppkbpbaa.PAll
open Go.RowKit Go.Proofs.Ytpphnjmppkbpbaa.Xw Go.Proofs.YtpphnjmppkbpbaaW.PrintWords Go.Proofs.YtpphnjmppkbpbaaW.PrintLast Go.Proofs.YtpphnjmppkbpbaaW.PrintMore
theorem spencelaw32_OriginOwn.calls (A0 : Option Addr) (c0 : Nat) (l0 : List Int) (a1_0 : Int) (a1_1 : Bool) (a1_2 : ByteArray) (a1_3 a1_4 : Int) (r : Bool) (w : World) (hr0 : Kd.C (Kd.int .i64) w A0 l0.length l0) (hc0 : l0.length ≤ c0) (h : spencelaw32_OriginOwn.f l0 a1_0 a1_1 a1_2 a1_3 a1_4 = some r) :
    Calls Try.prog 4 #[.slice A0 l0.length c0, .agg #[.int .i64 a1_0, .bool a1_1, .string a1_2, .int .i64 a1_3, .int .i64 a1_4]] w fun e w' => e = .returned (.bool r) ∧ Below w.heap.size w w' := by
  obtain rfl := Option.some.inj h
  exact Org.own_law A0 c0 l0 ⟨a1_0, a1_1, a1_2, ⟨a1_3, a1_4⟩⟩ w hr0 hc0
end Go.Proofs.Ytpphnjmppkbpbaa.PAll
namespace Go.Proofs.Ytpphnjmppkbpbaa.Pure
open Go.Proofs.Ytpphnjmppkbpbaa.PAll
theorem OriginOwn (l0 : List Int) (a1_0 : Int) (a1_1 : Bool) (a1_2 : ByteArray) (a1_3 a1_4 : Int) (_ : l0.length * 8 ≤ 140737488351232) (_ : ∀ x ∈ l0, (Lit.int .i64 x).wf = true) (_ : (Lit.int .i64 a1_0).wf = true) (_ : a1_2.size ≤ maxLen) (_ : (Lit.int .i64 a1_3).wf = true) (_ : (Lit.int .i64 a1_4).wf = true) : spencelaw32_OriginOwn.f l0 a1_0 a1_1 a1_2 a1_3 a1_4 = some true := rfl
end Go.Proofs.Ytpphnjmppkbpbaa.Pure
namespace Go.Proofs.Ytpphnjmppkbpbaa.originOwn
open Go.ChangeShapes Go.WideShapes Go.ChangeAt Go.RowKit Go.Proofs.Ytpphnjmppkbpbaa.Rd Go.Proofs.Ytpphnjmppkbpbaa.PAll Go.Proofs.YtpphnjmppkbpbaaW.PrintWords
open Go.ChangeMaps (open_string shut_string)
set_option linter.unusedVariables false
theorem own : ownKnob Try.prog.godebug = none := by kernel_rfl
theorem laidOut : laidOutB Try.prog = true := by kernel_rfl
def ok30 (x : S30) : Prop := (Lit.int .i64 x.f0).wf = true ∧ (Lit.int .i64 x.f1).wf = true
theorem o30 : Opens Try.prog 30 k30 ok30 := opens_struct Try.underlying30 (opensF_cons (opens_int Try.underlying3) rfl (by kernel_rfl) rfl (opensF_one (opens_int Try.underlying3) rfl (by kernel_rfl))) (by kernel_rfl) (fun x : S30 => (x.f0, x.f1)) (fun p => ⟨p.1, p.2⟩) (fun _ => rfl)
def ok32 (x : S32) : Prop := (Lit.int .i64 x.f0).wf = true ∧ True ∧ x.f2.size ≤ maxLen ∧ ((Lit.int .i64 x.f3.f0).wf = true ∧ (Lit.int .i64 x.f3.f1).wf = true)
theorem o32 : Opens Try.prog 32 k32 ok32 := opens_struct Try.underlying32 (opensF_cons (opens_int Try.underlying3) rfl (by kernel_rfl) rfl (opensF_cons (opens_bool Try.underlying4) rfl (by kernel_rfl) rfl (opensF_cons (opens_string Try.underlying9) rfl (by kernel_rfl) rfl (opensF_one o30 rfl (by kernel_rfl))))) (by kernel_rfl) (fun x : S32 => (x.f0, x.f1, x.f2, x.f3)) (fun p => ⟨p.1, p.2.1, p.2.2.1, p.2.2.2⟩) (fun _ => rfl)
set_option maxRecDepth 100000 in
set_option maxHeartbeats 4000000 in
theorem lifted (os : Os) (started : os.Started) (H : Type) (enc : TypeId × Value → H) :
    ReturnsInHanded {} Try.checked os 4 .any (Rows.originOwnSpec.pre6 enc Try.prog Try.f4 Rows.originOwnRow.domain false) (Rows.originOwnSpec.post enc Try.prog Try.f4 false true false false) := by
  refine returnsInHanded_of_change_sized (C := Try.checked) own started (by kernel_rfl) Try.func4
    (ChangeSpec.witness6 (enc := enc) (C := Try.checked) false ⟨#[], #[.slice none 0 0, .agg #[.int .i64 0, .bool false, .string ByteArray.empty, .int .i64 0, .int .i64 0]], []⟩ 8 (by kernel_rfl) (by kernel_rfl) (by kernel_rfl) (by kernel_rfl)) ?_
  intro W base args ds gs before hval0 hW hcnd hsz0 _
  have hsz : (DataW.weightsEach Try.prog (Try.f4.params.toList ++ Rows.originOwnSpec.plain.varTypes Try.prog) (ds ++ gs)).all (· ≤ reachBytes) = true := hsz0
  have hval : ∀ (j : Nat) t v, Try.f4.params[j]? = some t → args[j]? = some v → Value.okWide Try.prog W .any base t v := hval0
  have hW' := hW
  obtain ⟨p, q, hA0, hV, rfl, hfz, hnd⟩ := hW
  have hA : DataW.TrodAll enc Try.prog W 0 (fun _ => true) true Try.f4.params.toList args.toList ds p := hA0
  rw [Try.params4] at hA hval hsz
  obtain ⟨v0, vs0, d0, ds0, p0, q0, hargs, rfl, rfl, h0, r0⟩ := trodAll_cons hA
  obtain ⟨v1, vs1, d1, ds1, p1, q1, rfl, rfl, rfl, h1, r1⟩ := trodAll_cons r0
  obtain ⟨rfl, rfl, rfl⟩ := trodAll_nil r1
  obtain rfl : args = #[v0, v1] := by cases args; simp_all
  obtain ⟨rfl, rfl⟩ := trodVars_none hV
  have k0 := h0
  have lt0 : ∀ x ∈ p0, x.block < W.heap.size := by obtain ⟨m, hm⟩ := k0; exact DataW.trod_lt m _ _ _ hm
  have k1 := h1
  have lt1 : ∀ x ∈ p1, x.block < W.heap.size := by obtain ⟨m, hm⟩ := k1; exact DataW.trod_lt m _ _ _ hm
  obtain ⟨A0, c0, l0, rfl, hc0, hC0, hok0, hb0⟩ := open_row Try.underlying27 (opens_int Try.underlying3) (by kernel_rfl) (hval 0 27 v0 rfl rfl) h0 hsz (j := 0) rfl rfl (B := 8) (by kernel_rfl)
  obtain ⟨L1, x1, rfl, hK1, hok1⟩ := open_agg Try.underlying32 o32 (hval 1 32 v1 rfl rfl) h1
  obtain rfl := k32_open hK1
  clear hA0 hval0 hsz0 hsz
  have hk := Pure.OriginOwn l0 x1.f0 x1.f1 x1.f2 x1.f3.f0 x1.f3.f1 hb0 hok0 (hok1.1) (hok1.2.2.1) (hok1.2.2.2.1) (hok1.2.2.2.2)
  refine (PAll.spencelaw32_OriginOwn.calls _ _ l0 x1.f0 x1.f1 x1.f2 x1.f3.f0 x1.f3.f1 true W hC0 hc0 hk).mono fun e W' ⟨he, hd⟩ => ?_
  have bel : Below W.heap.size W W' := hd
  subst he
  exact ⟨_, rfl, _, _, _, [], _, [], hW', trodAll_mk1 (shut_bool Try.underlying4 _), (trodAll_cons_mk (Below.trod laidOut (by kernel_rfl) (of_decide_eq_true (by kernel_rfl)) k0 bel lt0) (trodAll_cons_mk (Below.trod laidOut (by kernel_rfl) (of_decide_eq_true (by kernel_rfl)) k1 bel lt1) trodAll_mk0)), rfl, bel.frame _, fun h => by cases h⟩
theorem over : Rows.originOwnRow.holds Try.pinned (OpenSpec.ofChange Rows.originOwnSpec) :=
  OpenClaim.holds_of_wide 4 Try.f4 rfl rfl rfl rfl rfl rfl rfl ⟨rfl, rfl, rfl, rfl, rfl⟩ rfl rfl rfl rfl rfl (by kernel_rfl) Try.func4 (by kernel_rfl)
    (of_decide_eq_true (by kernel_rfl)) (by unfold Func.isWrapper; first | (rw [if_pos (by decide +kernel)]; kernel_rfl) | (rw [if_neg (by decide +kernel)]; exact ⟨rfl, rfl⟩))
    (fun os started H enc _ => lifted os started H enc)
theorem proved : Rows.OriginOwnSaid := over
end Go.Proofs.Ytpphnjmppkbpbaa.originOwn
namespace Go.Proofs.Ytpphnjmppkbpbaa
theorem originOwn_holds : Rows.OriginOwnSaid := originOwn.proved
#print axioms originOwn_holds
end Go.Proofs.Ytpphnjmppkbpbaa
