/- What the law PlanMakes leans on (part 5 of 7): Go functions as plain functions, that the code comes to them, and what these answer. -/
import Derived.Test.YtcnlmpjoghogbaaDoorKPlanMakes1
import Derived.Deep.RegionHeld3
import Derived.Deep.DrawnRows
import Derived.Test.YtcnlmpjoghogbaaDoorKPlanMakes3
import Derived.Deep.LoopGhost
namespace Go.Proofs.YtcnlmpjoghogbaaDoor.Ag
open Go Go.RowKit Go.Shelf Go.Proofs Go.Proofs.YtcnlmpjoghogbaaDoor.Xw Go.Proofs.YtcnlmpjoghogbaaDoor.PAll Go.Proofs.YtcnlmpjoghogbaaDoorW.PrintWords Go.Proofs.YtcnlmpjoghogbaaDoorW.PrintLast Go.Proofs.YtcnlmpjoghogbaaDoorW.PrintMore
attribute [local go_sem] Oper.semAt_some
theorem alloc_abs {w X : World} (h : Below w.heap.size w X) (o : Obj) : ∃ g Y, X.heap.size = g ∧ X.alloc o = Y ∧ Y.heap[g]? = some o ∧ Below w.heap.size w Y ∧ w.heap.size ≤ g ∧ ∀ i o', X.heap[i]? = some o' → Y.heap[i]? = some o' ∧ i ≠ g :=
  ⟨_, _, rfl, rfl, blk_new X o, tBl h (aBl (Below.refl _ _) o), h.size, fun _ _ hi => ⟨bAl hi o, Nat.ne_of_lt (bLt hi)⟩⟩
set_option linter.unusedSimpArgs false in
set_option linter.unusedVariables false in
set_option maxRecDepth 100000 in
set_option maxHeartbeats 8000000 in
theorem bytes_calls (a0 a1 : Int) (c : Bool) (n s b1 x1 x2 y1 y2 : Int) (hb1 : wrap64 (a1 - 1) = b1) (hlt : ¬ a0 ≥ a1) (r1 r2 : Int) (hr : (if x2 = 0 ∨ y2 = 0 then ((0 : Int), (0 : Int)) else (x1, y2)) = (r1, r2))
    (hA : ∀ X, Calls Tryd.prog 52 #[.int .i64 a0, .int .i64 n, .int .i64 s] X fun e X' => e = .returned (.agg #[.int .i64 x1, .int .i64 x2]) ∧ Below X.heap.size X X')
    (hB : ∀ X, Calls Tryd.prog 52 #[.int .i64 b1, .int .i64 n, .int .i64 s] X fun e X' => e = .returned (.agg #[.int .i64 y1, .int .i64 y2]) ∧ Below X.heap.size X X') (w : World) :
    Calls Tryd.prog 35 #[.agg #[.int .i64 a0, .int .i64 a1, .bool c], .int .i64 n, .int .i64 s] w fun e w' => e = .returned (.agg #[.int .i64 r1, .int .i64 r2]) ∧ Below w.heap.size w w' := by
  have HR := AsZ.mk hr
  clear hr
  have CA := AsZ.mk hA
  have CB := AsZ.mk hB
  clear hA hB
  have hbw : IntKind.i64.wrap (a1 - 1) = b1 := (i64_w _).trans hb1
  clear hb1
  have d0 : decide (a0 ≥ a1) = false := decide_eq_false hlt
  have d0' : decide (a1 ≤ a0) = false := decide_eq_false hlt
  clear hlt
  go_enter Tryd.func35, Tryd.ntmps35
  have KP := bAl (blk_new w (.cells #[.int .i64 a0, .int .i64 a1, .bool c] 50 (0, 0))) (.cells #[.int .i64 0, .int .i64 0] 53 (0, 0))
  have KR := blk_new (w.alloc (.cells #[.int .i64 a0, .int .i64 a1, .bool c] 50 (0, 0))) (.cells #[.int .i64 0, .int .i64 0] 53 (0, 0))
  rw [alloc_size] at KR
  have HB := aBl (aBl (Below.refl w.heap.size w) (.cells #[.int .i64 a0, .int .i64 a1, .bool c] 50 (0, 0))) (.cells #[.int .i64 0, .int .i64 0] 53 (0, 0))
  replace KP := AsZ.mk KP
  replace KR := AsZ.mk KR
  replace HB := AsZ.mk HB
  go_wp2_with (fail)
  obtain ⟨wA, hwA⟩ : ∃ x, (w.alloc (.cells #[.int .i64 a0, .int .i64 a1, .bool c] 50 (0, 0))).alloc (.cells #[.int .i64 0, .int .i64 0] 53 (0, 0)) = x := ⟨_, rfl⟩
  rw [hwA] at KP KR HB ⊢
  clear hwA
  rename_i Kz hKz
  replace hKz := AsZ.mk hKz
  have hS0 : ∀ X, Below wA.heap.size wA X → X.cell? ⟨w.heap.size, 0, none⟩ = some (.int .i64 a0) := fun X h => (bCe (bBl KP.out h) 0).trans rfl
  have hS1 : ∀ X, Below wA.heap.size wA X → X.cell? ⟨w.heap.size, 1, none⟩ = some (.int .i64 a1) := fun X h => (bCe (bBl KP.out h) 1).trans rfl
  have hX : Below wA.heap.size wA wA := Below.refl _ _
  refine wp_region_noPanic ?_
  refine wp_region_held_drew (S := fun X => Below wA.heap.size wA X) (by kernel_rfl) (below_drew hX) (fun hHeld => ?_)
  replace hX := AsZ.mk (below_drew hX)
  refine wpAnyH_take (i := 0) (oi := { dst := some 15, op := Go.Op.fieldAddr 50 (Go.Operand.tmp 3) 0, type := 0, pos := "law.go:24", after := #[], guard := none }) (v := ?_) rfl (by kernel_rfl) (by kernel_rfl) (by kernel_rfl) (fun _ _ _ h => h) (Or.inl ⟨by kernel_rfl, ?_⟩) (by assumption) ?_
  rotate_left
  · intro W hSw; go_simp; first | done | with_reducible rfl
  try simp only [Act.put, List.setIfInBounds_toArray, List.set_cons_zero, List.set_cons_succ]
  refine wpAnyH_take (i := 1) (oi := { dst := some 16, op := Go.Op.load 3 (Go.Operand.tmp 15), type := 3, pos := "law.go:24", after := #[{ on := 0, ground := Go.Ground.data }], guard := none }) (v := ?_) rfl (by kernel_rfl) (by kernel_rfl) (by kernel_rfl) (fun _ _ _ h => h) (Or.inl ⟨by kernel_rfl, ?_⟩) (by assumption) ?_
  rotate_left
  · intro W hSw; go_simp; first | done | with_reducible rfl
  try simp only [Act.put, List.setIfInBounds_toArray, List.set_cons_zero, List.set_cons_succ]
  refine wpAnyH_take (i := 2) (oi := { dst := some 17, op := Go.Op.move (Go.Operand.tmp 1), type := 3, pos := "law.go:24", after := #[], guard := none }) (v := ?_) rfl (by kernel_rfl) (by kernel_rfl) (by kernel_rfl) (fun _ _ _ h => h) (Or.inl ⟨by kernel_rfl, ?_⟩) (by assumption) ?_
  rotate_left
  · intro W hSw; go_simp; first | done | with_reducible rfl
  try simp only [Act.put, List.setIfInBounds_toArray, List.set_cons_zero, List.set_cons_succ]
  refine wpAnyH_take (i := 3) (oi := { dst := some 18, op := Go.Op.move (Go.Operand.tmp 2), type := 3, pos := "law.go:24", after := #[], guard := none }) (v := ?_) rfl (by kernel_rfl) (by kernel_rfl) (by kernel_rfl) (fun _ _ _ h => h) (Or.inl ⟨by kernel_rfl, ?_⟩) (by assumption) ?_
  rotate_left
  · intro W hSw; go_simp; first | done | with_reducible rfl
  try simp only [Act.put, List.setIfInBounds_toArray, List.set_cons_zero, List.set_cons_succ]
  refine wpAnyH_take (i := 5) (oi := { dst := some 20, op := Go.Op.fieldAddr 50 (Go.Operand.tmp 3) 1, type := 0, pos := "law.go:24", after := #[], guard := none }) (v := ?_) rfl (by kernel_rfl) (by kernel_rfl) (by kernel_rfl) (fun _ _ _ h => h) (Or.inl ⟨by kernel_rfl, ?_⟩) (by assumption) ?_
  rotate_left
  · intro W hSw; go_simp; first | done | with_reducible rfl
  try simp only [Act.put, List.setIfInBounds_toArray, List.set_cons_zero, List.set_cons_succ]
  refine wpAnyH_take (i := 6) (oi := { dst := some 21, op := Go.Op.load 3 (Go.Operand.tmp 20), type := 3, pos := "law.go:24", after := #[{ on := 5, ground := Go.Ground.data }], guard := none }) (v := ?_) rfl (by kernel_rfl) (by kernel_rfl) (by kernel_rfl) (fun _ _ _ h => h) (Or.inl ⟨by kernel_rfl, ?_⟩) (by assumption) ?_
  rotate_left
  · intro W hSw; go_simp; first | done | with_reducible rfl
  try simp only [Act.put, List.setIfInBounds_toArray, List.set_cons_zero, List.set_cons_succ]
  refine wpAnyH_take (i := 7) (oi := { dst := some 22, op := Go.Op.binOp Go.BinOp.sub 3 (Go.Operand.tmp 21) (Go.Operand.const (Go.Value.int Go.IntKind.i64 1)) 3, type := 3, pos := "law.go:24", after := #[{ on := 6, ground := Go.Ground.data }], guard := none }) (v := ?_) rfl (by kernel_rfl) (by kernel_rfl) (by kernel_rfl) (fun _ _ _ h => h) (Or.inl ⟨by kernel_rfl, ?_⟩) (by assumption) ?_
  rotate_left
  · intro W hSw; go_simp; first | done | with_reducible rfl
  try simp only [Act.put, List.setIfInBounds_toArray, List.set_cons_zero, List.set_cons_succ]
  refine wpAnyH_take (i := 8) (oi := { dst := some 23, op := Go.Op.move (Go.Operand.tmp 1), type := 3, pos := "law.go:24", after := #[], guard := none }) (v := ?_) rfl (by kernel_rfl) (by kernel_rfl) (by kernel_rfl) (fun _ _ _ h => h) (Or.inl ⟨by kernel_rfl, ?_⟩) (by assumption) ?_
  rotate_left
  · intro W hSw; go_simp; first | done | with_reducible rfl
  try simp only [Act.put, List.setIfInBounds_toArray, List.set_cons_zero, List.set_cons_succ]
  refine wpAnyH_take (i := 9) (oi := { dst := some 24, op := Go.Op.move (Go.Operand.tmp 2), type := 3, pos := "law.go:24", after := #[], guard := none }) (v := ?_) rfl (by kernel_rfl) (by kernel_rfl) (by kernel_rfl) (fun _ _ _ h => h) (Or.inl ⟨by kernel_rfl, ?_⟩) (by assumption) ?_
  rotate_left
  · intro W hSw; go_simp; first | done | with_reducible rfl
  try simp only [Act.put, List.setIfInBounds_toArray, List.set_cons_zero, List.set_cons_succ]
  refine wpAnyH_ready (rs := [4, 11, 12]) (by kernel_rfl) (by simp) ?_
  refine AllReadyH.cons (o := { dst := some 19, op := Go.Op.call { callee := Go.Callee.value (Go.Operand.func 52), args := #[Go.Operand.tmp 16, Go.Operand.tmp 17, Go.Operand.tmp 18], argTypes := #[3, 3, 3] }, type := 53, pos := "law.go:24", after := #[{ on := 1, ground := Go.Ground.data }, { on := 2, ground := Go.Ground.data }, { on := 3, ground := Go.Ground.data }], guard := none }) rfl (fun K hK => ?_) (AllReadyH.cons (o := { dst := some 7, op := Go.Op.alloc 53, type := 0, pos := "law.go:24", after := #[], guard := none }) rfl (fun K hK => ?_) (AllReadyH.cons (o := { dst := some 8, op := Go.Op.alloc 53, type := 0, pos := "law.go:24", after := #[], guard := none }) rfl (fun K hK => ?_) AllReadyH.nil))
  · refine goes_ (N := some 19) («as» := #[.tmp 16, .tmp 17, .tmp 18]) Tryd.func52 (by kernel_rfl) rfl #[.int .i64 a0, .int .i64 n, .int .i64 s] (by kernel_rfl) rfl rfl (by kernel_rfl) ?_
    with_reducible refine (CA.out _).mono ?_
    rintro e X ⟨rfl, hb⟩
    refine ⟨_, rfl, ?_⟩
    (try replace G7 := AsZ.mk (bBl G7.out hb))
    (try replace G8 := AsZ.mk (bBl G8.out hb))
    replace hX := AsZ.mk (tBl hX.out hb)
    clear hb
    refine hK.out _ _ ?_ (fun hHeld => ?_)
    · exact hX.out
    clear hK K
    try simp only [Act.put, List.setIfInBounds_toArray, List.set_cons_zero, List.set_cons_succ]
    refine wpAnyH_ready (rs := [10, 11, 12]) (by kernel_rfl) (by simp) ?_
    refine AllReadyH.cons (o := { dst := some 25, op := Go.Op.call { callee := Go.Callee.value (Go.Operand.func 52), args := #[Go.Operand.tmp 22, Go.Operand.tmp 23, Go.Operand.tmp 24], argTypes := #[3, 3, 3] }, type := 53, pos := "law.go:24", after := #[{ on := 7, ground := Go.Ground.data }, { on := 8, ground := Go.Ground.data }, { on := 9, ground := Go.Ground.data }, { on := 4, ground := Go.Ground.chain }], guard := none }) rfl (fun K hK => ?_) (AllReadyH.cons (o := { dst := some 7, op := Go.Op.alloc 53, type := 0, pos := "law.go:24", after := #[], guard := none }) rfl (fun K hK => ?_) (AllReadyH.cons (o := { dst := some 8, op := Go.Op.alloc 53, type := 0, pos := "law.go:24", after := #[], guard := none }) rfl (fun K hK => ?_) AllReadyH.nil))
    · refine goes_ (N := some 25) («as» := #[.tmp 22, .tmp 23, .tmp 24]) Tryd.func52 (by kernel_rfl) rfl #[.int .i64 b1, .int .i64 n, .int .i64 s] (by kernel_rfl) rfl rfl (by kernel_rfl) ?_
      with_reducible refine (CB.out _).mono ?_
      rintro e X ⟨rfl, hb⟩
      refine ⟨_, rfl, ?_⟩
      (try replace G7 := AsZ.mk (bBl G7.out hb))
      (try replace G8 := AsZ.mk (bBl G8.out hb))
      replace hX := AsZ.mk (tBl hX.out hb)
      clear hb
      refine hK.out _ _ ?_ (fun hHeld => ?_)
      · exact hX.out
      clear hK K
      try simp only [Act.put, List.setIfInBounds_toArray, List.set_cons_zero, List.set_cons_succ]
      refine wpAnyH_ready (rs := [11, 12]) (by kernel_rfl) (by simp) ?_
      refine AllReadyH.cons (o := { dst := some 7, op := Go.Op.alloc 53, type := 0, pos := "law.go:24", after := #[], guard := none }) rfl (fun K hK => ?_) (AllReadyH.cons (o := { dst := some 8, op := Go.Op.alloc 53, type := 0, pos := "law.go:24", after := #[], guard := none }) rfl (fun K hK => ?_) AllReadyH.nil)
      · obtain ⟨g7, Y, e_, eY, hG, hB, hge7, hold⟩ := alloc_abs hX.out (.cells #[.int .i64 0, .int .i64 0] 53 (0, 0))
        go_simp
        (try simp only [e_, eY])
        (try have N8 := AsZ.mk (hold _ _ G8.out).2)
        (try replace G8 := AsZ.mk (hold _ _ G8.out).1)
        replace hX := AsZ.mk hB
        have G7 := AsZ.mk hG
        replace hge7 := AsZ.mk hge7
        clear hold hG hB e_ eY
        refine hK.out _ _ ?_ (fun hHeld => ?_)
        · exact hX.out
        clear hK K
        try simp only [Act.put, List.setIfInBounds_toArray, List.set_cons_zero, List.set_cons_succ]
        refine wpAnyH_ready (rs := [12]) (by kernel_rfl) (by simp) ?_
        refine AllReadyH.cons (o := { dst := some 8, op := Go.Op.alloc 53, type := 0, pos := "law.go:24", after := #[], guard := none }) rfl (fun K hK => ?_) AllReadyH.nil
        obtain ⟨g8, Y, e_, eY, hG, hB, hge8, hold⟩ := alloc_abs hX.out (.cells #[.int .i64 0, .int .i64 0] 53 (0, 0))
        go_simp
        (try simp only [e_, eY])
        (try have N7 := AsZ.mk (hold _ _ G7.out).2)
        (try replace G7 := AsZ.mk (hold _ _ G7.out).1)
        replace hX := AsZ.mk hB
        have G8 := AsZ.mk hG
        replace hge8 := AsZ.mk hge8
        clear hold hG hB e_ eY
        refine hK.out _ _ ?_ (fun hHeld => ?_)
        · exact hX.out
        clear hK K
        try simp only [Act.put, List.setIfInBounds_toArray, List.set_cons_zero, List.set_cons_succ]
        refine wpAnyH_ready (rs := [13]) (by kernel_rfl) (by simp) ?_
        refine AllReadyH.cons (o := { dst := none, op := Go.Op.store 53 (Go.Operand.tmp 7) (Go.Operand.tmp 19), type := 0, pos := "law.go:24", after := #[{ on := 11, ground := Go.Ground.data }, { on := 4, ground := Go.Ground.data }, { on := 10, ground := Go.Ground.chain }, { on := 0, ground := Go.Ground.phase }, { on := 1, ground := Go.Ground.phase }, { on := 2, ground := Go.Ground.phase }, { on := 3, ground := Go.Ground.phase }, { on := 4, ground := Go.Ground.phase }, { on := 5, ground := Go.Ground.textOnly Go.Departure.lateStores }, { on := 6, ground := Go.Ground.textOnly Go.Departure.lateStores }, { on := 7, ground := Go.Ground.textOnly Go.Departure.lateStores }, { on := 8, ground := Go.Ground.textOnly Go.Departure.lateStores }, { on := 9, ground := Go.Ground.textOnly Go.Departure.lateStores }, { on := 10, ground := Go.Ground.textOnly Go.Departure.lateStoresUnsure }, { on := 11, ground := Go.Ground.phase }, { on := 12, ground := Go.Ground.phase }], guard := none }) rfl (fun K hK => ?_) AllReadyH.nil
        (first | have N78 := AsZ.mk N7.out | have N78 := AsZ.mk N8.out.symm)
        have N87 := AsZ.mk N78.out.symm
        have hq0 := (bCe G7.out 0).trans rfl
        have hq1 := (bCe G7.out 1).trans rfl
        have hf0 := bFz G7.out 0
        have hf1 := bFz G7.out 1
        simp only [List.getElem?_toArray, List.getElem?_cons_zero, List.getElem?_cons_succ] at hq0 hq1
        go_simp
        replace G8 := AsZ.mk (bFr (p := ⟨g7, 1, none⟩) (bFr (p := ⟨g7, 0, none⟩) G8.out N87.out (.int .i64 x1)) N87.out (.int .i64 x2))
        replace G7 := AsZ.mk (blk_set (blk_set G7.out 0 (.int .i64 x1)) 1 (.int .i64 x2))
        replace hX := AsZ.mk ((hX.out.setCell (p := ⟨g7, 0, none⟩) hge7.out (.int .i64 x1)).setCell (p := ⟨g7, 1, none⟩) hge7.out (.int .i64 x2))
        clear hq0 hq1 hf0 hf1
        refine hK.out _ _ ?_ (fun hHeld => ?_)
        · exact hX.out
        clear hK K
        try simp only [Act.put, List.setIfInBounds_toArray, List.set_cons_zero, List.set_cons_succ]
        refine wpAnyH_ready (rs := [14]) (by kernel_rfl) (by simp) ?_
        refine AllReadyH.cons (o := { dst := none, op := Go.Op.store 53 (Go.Operand.tmp 8) (Go.Operand.tmp 25), type := 0, pos := "law.go:24", after := #[{ on := 12, ground := Go.Ground.data }, { on := 10, ground := Go.Ground.data }, { on := 13, ground := Go.Ground.chain }, { on := 0, ground := Go.Ground.phase }, { on := 1, ground := Go.Ground.phase }, { on := 2, ground := Go.Ground.phase }, { on := 3, ground := Go.Ground.phase }, { on := 4, ground := Go.Ground.phase }, { on := 5, ground := Go.Ground.phase }, { on := 6, ground := Go.Ground.phase }, { on := 7, ground := Go.Ground.phase }, { on := 8, ground := Go.Ground.phase }, { on := 9, ground := Go.Ground.phase }, { on := 10, ground := Go.Ground.phase }, { on := 11, ground := Go.Ground.phase }, { on := 12, ground := Go.Ground.phase }, { on := 13, ground := Go.Ground.phase }], guard := none }) rfl (fun K hK => ?_) AllReadyH.nil
        have hq0 := (bCe G8.out 0).trans rfl
        have hq1 := (bCe G8.out 1).trans rfl
        have hf0 := bFz G8.out 0
        have hf1 := bFz G8.out 1
        simp only [List.getElem?_toArray, List.getElem?_cons_zero, List.getElem?_cons_succ] at hq0 hq1
        go_simp
        replace G7 := AsZ.mk (bFr (p := ⟨g8, 1, none⟩) (bFr (p := ⟨g8, 0, none⟩) G7.out N78.out (.int .i64 y1)) N78.out (.int .i64 y2))
        replace G8 := AsZ.mk (blk_set (blk_set G8.out 0 (.int .i64 y1)) 1 (.int .i64 y2))
        replace hX := AsZ.mk ((hX.out.setCell (p := ⟨g8, 0, none⟩) hge8.out (.int .i64 y1)).setCell (p := ⟨g8, 1, none⟩) hge8.out (.int .i64 y2))
        clear hq0 hq1 hf0 hf1
        refine hK.out _ _ ?_ (fun hHeld => ?_)
        · exact hX.out
        clear hK K
        try simp only [Act.put, List.setIfInBounds_toArray, List.set_cons_zero, List.set_cons_succ]
        refine wpAnyH_done (by kernel_rfl) ?_ _
        try simp only [Act.put, List.setIfInBounds_toArray, List.set_cons_zero, List.set_cons_succ, List.getElem_toArray, List.getElem_cons_zero, List.getElem_cons_succ]
        refine NoPanic.normal ?_
        (try dsimp only [Exit.then])
        refine hKz.out _ _ ?_
        clear hHeld
        generalize World.setCell _ _ _ = Z at G7 G8 hX ⊢
        have h70 : Z.cell? ⟨g7, 0, none⟩ = some (.int .i64 x1) := (bCe G7.out 0).trans rfl
        have h71 : Z.cell? ⟨g7, 1, none⟩ = some (.int .i64 x2) := (bCe G7.out 1).trans rfl
        have h81 : Z.cell? ⟨g8, 1, none⟩ = some (.int .i64 y2) := (bCe G8.out 1).trans rfl
        have hr0 : Z.cell? ⟨w.heap.size + 1, 0, none⟩ = some (.int .i64 0) := (bCe (bBl KR.out hX.out) 0).trans rfl
        have hr1 : Z.cell? ⟨w.heap.size + 1, 1, none⟩ = some (.int .i64 0) := (bCe (bBl KR.out hX.out) 1).trans rfl
        have fr0 := bFz (bBl KR.out hX.out) 0
        have fr1 := bFz (bBl KR.out hX.out) 1
        clear G7 G8 hS0 hS1
        by_cases c7 : x2 = 0
        · have d7 : (x2 == 0) = true := by simp [c7]
          have hh := HR.out
          rw [if_pos (.inl c7)] at hh
          obtain ⟨rfl, rfl⟩ := Prod.mk.inj hh
          clear hh HR
          replace c7 := AsZ.mk c7
          go_wp2
          refine bodyPost_ret (results_cell_row rfl _ _ (w.heap.size + 1) 53 #[.int .i64 0, .int .i64 0] (0, 0) _ rfl (blk_set (blk_set (bBl KR.out hX.out) 0 (.int .i64 0)) 1 (.int .i64 0)) Tryd.underlying53 rfl (by kernel_rfl)) rfl ?_
          exact ⟨by first | rfl | simp, ((tBl HB.out hX.out).setCell (p := ⟨w.heap.size + 1, 0, none⟩) (Nat.le_succ _) _).setCell (p := ⟨w.heap.size + 1, 1, none⟩) (Nat.le_succ _) _⟩
        · have d7 : (x2 == 0) = false := by simp [c7]
          by_cases c8 : y2 = 0
          · have d8 : (y2 == 0) = true := by simp [c8]
            have hh := HR.out
            rw [if_pos (.inr c8)] at hh
            obtain ⟨rfl, rfl⟩ := Prod.mk.inj hh
            clear hh HR
            replace c7 := AsZ.mk c7
            replace c8 := AsZ.mk c8
            go_wp2
            refine bodyPost_ret (results_cell_row rfl _ _ (w.heap.size + 1) 53 #[.int .i64 0, .int .i64 0] (0, 0) _ rfl (blk_set (blk_set (bBl KR.out hX.out) 0 (.int .i64 0)) 1 (.int .i64 0)) Tryd.underlying53 rfl (by kernel_rfl)) rfl ?_
            exact ⟨by first | rfl | simp, ((tBl HB.out hX.out).setCell (p := ⟨w.heap.size + 1, 0, none⟩) (Nat.le_succ _) _).setCell (p := ⟨w.heap.size + 1, 1, none⟩) (Nat.le_succ _) _⟩
          · have d8 : (y2 == 0) = false := by simp [c8]
            have hh := HR.out
            rw [if_neg (fun h => h.elim c7 c8)] at hh
            obtain ⟨rfl, rfl⟩ := Prod.mk.inj hh
            clear hh HR
            replace c7 := AsZ.mk c7
            replace c8 := AsZ.mk c8
            go_wp2
            refine bodyPost_ret (results_cell_row rfl _ _ (w.heap.size + 1) 53 #[.int .i64 x1, .int .i64 y2] (0, 0) _ rfl (blk_set (blk_set (bBl KR.out hX.out) 0 (.int .i64 x1)) 1 (.int .i64 y2)) Tryd.underlying53 rfl (by kernel_rfl)) rfl ?_
            exact ⟨by first | rfl | simp, ((tBl HB.out hX.out).setCell (p := ⟨w.heap.size + 1, 0, none⟩) (Nat.le_succ _) _).setCell (p := ⟨w.heap.size + 1, 1, none⟩) (Nat.le_succ _) _⟩
      · obtain ⟨g8, Y, e_, eY, hG, hB, hge8, hold⟩ := alloc_abs hX.out (.cells #[.int .i64 0, .int .i64 0] 53 (0, 0))
        go_simp
        (try simp only [e_, eY])
        (try have N7 := AsZ.mk (hold _ _ G7.out).2)
        (try replace G7 := AsZ.mk (hold _ _ G7.out).1)
        replace hX := AsZ.mk hB
        have G8 := AsZ.mk hG
        replace hge8 := AsZ.mk hge8
        clear hold hG hB e_ eY
        refine hK.out _ _ ?_ (fun hHeld => ?_)
        · exact hX.out
        clear hK K
        try simp only [Act.put, List.setIfInBounds_toArray, List.set_cons_zero, List.set_cons_succ]
        refine wpAnyH_ready (rs := [11]) (by kernel_rfl) (by simp) ?_
        refine AllReadyH.cons (o := { dst := some 7, op := Go.Op.alloc 53, type := 0, pos := "law.go:24", after := #[], guard := none }) rfl (fun K hK => ?_) AllReadyH.nil
        obtain ⟨g7, Y, e_, eY, hG, hB, hge7, hold⟩ := alloc_abs hX.out (.cells #[.int .i64 0, .int .i64 0] 53 (0, 0))
        go_simp
        (try simp only [e_, eY])
        (try have N8 := AsZ.mk (hold _ _ G8.out).2)
        (try replace G8 := AsZ.mk (hold _ _ G8.out).1)
        replace hX := AsZ.mk hB
        have G7 := AsZ.mk hG
        replace hge7 := AsZ.mk hge7
        clear hold hG hB e_ eY
        refine hK.out _ _ ?_ (fun hHeld => ?_)
        · exact hX.out
        clear hK K
        try simp only [Act.put, List.setIfInBounds_toArray, List.set_cons_zero, List.set_cons_succ]
        refine wpAnyH_ready (rs := [13]) (by kernel_rfl) (by simp) ?_
        refine AllReadyH.cons (o := { dst := none, op := Go.Op.store 53 (Go.Operand.tmp 7) (Go.Operand.tmp 19), type := 0, pos := "law.go:24", after := #[{ on := 11, ground := Go.Ground.data }, { on := 4, ground := Go.Ground.data }, { on := 10, ground := Go.Ground.chain }, { on := 0, ground := Go.Ground.phase }, { on := 1, ground := Go.Ground.phase }, { on := 2, ground := Go.Ground.phase }, { on := 3, ground := Go.Ground.phase }, { on := 4, ground := Go.Ground.phase }, { on := 5, ground := Go.Ground.textOnly Go.Departure.lateStores }, { on := 6, ground := Go.Ground.textOnly Go.Departure.lateStores }, { on := 7, ground := Go.Ground.textOnly Go.Departure.lateStores }, { on := 8, ground := Go.Ground.textOnly Go.Departure.lateStores }, { on := 9, ground := Go.Ground.textOnly Go.Departure.lateStores }, { on := 10, ground := Go.Ground.textOnly Go.Departure.lateStoresUnsure }, { on := 11, ground := Go.Ground.phase }, { on := 12, ground := Go.Ground.phase }], guard := none }) rfl (fun K hK => ?_) AllReadyH.nil
        (first | have N78 := AsZ.mk N7.out | have N78 := AsZ.mk N8.out.symm)
        have N87 := AsZ.mk N78.out.symm
        have hq0 := (bCe G7.out 0).trans rfl
        have hq1 := (bCe G7.out 1).trans rfl
        have hf0 := bFz G7.out 0
        have hf1 := bFz G7.out 1
        simp only [List.getElem?_toArray, List.getElem?_cons_zero, List.getElem?_cons_succ] at hq0 hq1
        go_simp
        replace G8 := AsZ.mk (bFr (p := ⟨g7, 1, none⟩) (bFr (p := ⟨g7, 0, none⟩) G8.out N87.out (.int .i64 x1)) N87.out (.int .i64 x2))
        replace G7 := AsZ.mk (blk_set (blk_set G7.out 0 (.int .i64 x1)) 1 (.int .i64 x2))
        replace hX := AsZ.mk ((hX.out.setCell (p := ⟨g7, 0, none⟩) hge7.out (.int .i64 x1)).setCell (p := ⟨g7, 1, none⟩) hge7.out (.int .i64 x2))
        clear hq0 hq1 hf0 hf1
        refine hK.out _ _ ?_ (fun hHeld => ?_)
        · exact hX.out
        clear hK K
        try simp only [Act.put, List.setIfInBounds_toArray, List.set_cons_zero, List.set_cons_succ]
        refine wpAnyH_ready (rs := [14]) (by kernel_rfl) (by simp) ?_
        refine AllReadyH.cons (o := { dst := none, op := Go.Op.store 53 (Go.Operand.tmp 8) (Go.Operand.tmp 25), type := 0, pos := "law.go:24", after := #[{ on := 12, ground := Go.Ground.data }, { on := 10, ground := Go.Ground.data }, { on := 13, ground := Go.Ground.chain }, { on := 0, ground := Go.Ground.phase }, { on := 1, ground := Go.Ground.phase }, { on := 2, ground := Go.Ground.phase }, { on := 3, ground := Go.Ground.phase }, { on := 4, ground := Go.Ground.phase }, { on := 5, ground := Go.Ground.phase }, { on := 6, ground := Go.Ground.phase }, { on := 7, ground := Go.Ground.phase }, { on := 8, ground := Go.Ground.phase }, { on := 9, ground := Go.Ground.phase }, { on := 10, ground := Go.Ground.phase }, { on := 11, ground := Go.Ground.phase }, { on := 12, ground := Go.Ground.phase }, { on := 13, ground := Go.Ground.phase }], guard := none }) rfl (fun K hK => ?_) AllReadyH.nil
        have hq0 := (bCe G8.out 0).trans rfl
        have hq1 := (bCe G8.out 1).trans rfl
        have hf0 := bFz G8.out 0
        have hf1 := bFz G8.out 1
        simp only [List.getElem?_toArray, List.getElem?_cons_zero, List.getElem?_cons_succ] at hq0 hq1
        go_simp
        replace G7 := AsZ.mk (bFr (p := ⟨g8, 1, none⟩) (bFr (p := ⟨g8, 0, none⟩) G7.out N78.out (.int .i64 y1)) N78.out (.int .i64 y2))
        replace G8 := AsZ.mk (blk_set (blk_set G8.out 0 (.int .i64 y1)) 1 (.int .i64 y2))
        replace hX := AsZ.mk ((hX.out.setCell (p := ⟨g8, 0, none⟩) hge8.out (.int .i64 y1)).setCell (p := ⟨g8, 1, none⟩) hge8.out (.int .i64 y2))
        clear hq0 hq1 hf0 hf1
        refine hK.out _ _ ?_ (fun hHeld => ?_)
        · exact hX.out
        clear hK K
        try simp only [Act.put, List.setIfInBounds_toArray, List.set_cons_zero, List.set_cons_succ]
        refine wpAnyH_done (by kernel_rfl) ?_ _
        try simp only [Act.put, List.setIfInBounds_toArray, List.set_cons_zero, List.set_cons_succ, List.getElem_toArray, List.getElem_cons_zero, List.getElem_cons_succ]
        refine NoPanic.normal ?_
        (try dsimp only [Exit.then])
        refine hKz.out _ _ ?_
        clear hHeld
        generalize World.setCell _ _ _ = Z at G7 G8 hX ⊢
        have h70 : Z.cell? ⟨g7, 0, none⟩ = some (.int .i64 x1) := (bCe G7.out 0).trans rfl
        have h71 : Z.cell? ⟨g7, 1, none⟩ = some (.int .i64 x2) := (bCe G7.out 1).trans rfl
        have h81 : Z.cell? ⟨g8, 1, none⟩ = some (.int .i64 y2) := (bCe G8.out 1).trans rfl
        have hr0 : Z.cell? ⟨w.heap.size + 1, 0, none⟩ = some (.int .i64 0) := (bCe (bBl KR.out hX.out) 0).trans rfl
        have hr1 : Z.cell? ⟨w.heap.size + 1, 1, none⟩ = some (.int .i64 0) := (bCe (bBl KR.out hX.out) 1).trans rfl
        have fr0 := bFz (bBl KR.out hX.out) 0
        have fr1 := bFz (bBl KR.out hX.out) 1
        clear G7 G8 hS0 hS1
        by_cases c7 : x2 = 0
        · have d7 : (x2 == 0) = true := by simp [c7]
          have hh := HR.out
          rw [if_pos (.inl c7)] at hh
          obtain ⟨rfl, rfl⟩ := Prod.mk.inj hh
          clear hh HR
          replace c7 := AsZ.mk c7
          go_wp2
          refine bodyPost_ret (results_cell_row rfl _ _ (w.heap.size + 1) 53 #[.int .i64 0, .int .i64 0] (0, 0) _ rfl (blk_set (blk_set (bBl KR.out hX.out) 0 (.int .i64 0)) 1 (.int .i64 0)) Tryd.underlying53 rfl (by kernel_rfl)) rfl ?_
          exact ⟨by first | rfl | simp, ((tBl HB.out hX.out).setCell (p := ⟨w.heap.size + 1, 0, none⟩) (Nat.le_succ _) _).setCell (p := ⟨w.heap.size + 1, 1, none⟩) (Nat.le_succ _) _⟩
        · have d7 : (x2 == 0) = false := by simp [c7]
          by_cases c8 : y2 = 0
          · have d8 : (y2 == 0) = true := by simp [c8]
            have hh := HR.out
            rw [if_pos (.inr c8)] at hh
            obtain ⟨rfl, rfl⟩ := Prod.mk.inj hh
            clear hh HR
            replace c7 := AsZ.mk c7
            replace c8 := AsZ.mk c8
            go_wp2
            refine bodyPost_ret (results_cell_row rfl _ _ (w.heap.size + 1) 53 #[.int .i64 0, .int .i64 0] (0, 0) _ rfl (blk_set (blk_set (bBl KR.out hX.out) 0 (.int .i64 0)) 1 (.int .i64 0)) Tryd.underlying53 rfl (by kernel_rfl)) rfl ?_
            exact ⟨by first | rfl | simp, ((tBl HB.out hX.out).setCell (p := ⟨w.heap.size + 1, 0, none⟩) (Nat.le_succ _) _).setCell (p := ⟨w.heap.size + 1, 1, none⟩) (Nat.le_succ _) _⟩
          · have d8 : (y2 == 0) = false := by simp [c8]
            have hh := HR.out
            rw [if_neg (fun h => h.elim c7 c8)] at hh
            obtain ⟨rfl, rfl⟩ := Prod.mk.inj hh
            clear hh HR
            replace c7 := AsZ.mk c7
            replace c8 := AsZ.mk c8
            go_wp2
            refine bodyPost_ret (results_cell_row rfl _ _ (w.heap.size + 1) 53 #[.int .i64 x1, .int .i64 y2] (0, 0) _ rfl (blk_set (blk_set (bBl KR.out hX.out) 0 (.int .i64 x1)) 1 (.int .i64 y2)) Tryd.underlying53 rfl (by kernel_rfl)) rfl ?_
            exact ⟨by first | rfl | simp, ((tBl HB.out hX.out).setCell (p := ⟨w.heap.size + 1, 0, none⟩) (Nat.le_succ _) _).setCell (p := ⟨w.heap.size + 1, 1, none⟩) (Nat.le_succ _) _⟩
    · obtain ⟨g7, Y, e_, eY, hG, hB, hge7, hold⟩ := alloc_abs hX.out (.cells #[.int .i64 0, .int .i64 0] 53 (0, 0))
      go_simp
      (try simp only [e_, eY])
      (try have N8 := AsZ.mk (hold _ _ G8.out).2)
      (try replace G8 := AsZ.mk (hold _ _ G8.out).1)
      replace hX := AsZ.mk hB
      have G7 := AsZ.mk hG
      replace hge7 := AsZ.mk hge7
      clear hold hG hB e_ eY
      refine hK.out _ _ ?_ (fun hHeld => ?_)
      · exact hX.out
      clear hK K
      try simp only [Act.put, List.setIfInBounds_toArray, List.set_cons_zero, List.set_cons_succ]
      refine wpAnyH_ready (rs := [10, 12]) (by kernel_rfl) (by simp) ?_
      refine AllReadyH.cons (o := { dst := some 25, op := Go.Op.call { callee := Go.Callee.value (Go.Operand.func 52), args := #[Go.Operand.tmp 22, Go.Operand.tmp 23, Go.Operand.tmp 24], argTypes := #[3, 3, 3] }, type := 53, pos := "law.go:24", after := #[{ on := 7, ground := Go.Ground.data }, { on := 8, ground := Go.Ground.data }, { on := 9, ground := Go.Ground.data }, { on := 4, ground := Go.Ground.chain }], guard := none }) rfl (fun K hK => ?_) (AllReadyH.cons (o := { dst := some 8, op := Go.Op.alloc 53, type := 0, pos := "law.go:24", after := #[], guard := none }) rfl (fun K hK => ?_) AllReadyH.nil)
      · refine goes_ (N := some 25) («as» := #[.tmp 22, .tmp 23, .tmp 24]) Tryd.func52 (by kernel_rfl) rfl #[.int .i64 b1, .int .i64 n, .int .i64 s] (by kernel_rfl) rfl rfl (by kernel_rfl) ?_
        with_reducible refine (CB.out _).mono ?_
        rintro e X ⟨rfl, hb⟩
        refine ⟨_, rfl, ?_⟩
        (try replace G7 := AsZ.mk (bBl G7.out hb))
        (try replace G8 := AsZ.mk (bBl G8.out hb))
        replace hX := AsZ.mk (tBl hX.out hb)
        clear hb
        refine hK.out _ _ ?_ (fun hHeld => ?_)
        · exact hX.out
        clear hK K
        try simp only [Act.put, List.setIfInBounds_toArray, List.set_cons_zero, List.set_cons_succ]
        refine wpAnyH_ready (rs := [12]) (by kernel_rfl) (by simp) ?_
        refine AllReadyH.cons (o := { dst := some 8, op := Go.Op.alloc 53, type := 0, pos := "law.go:24", after := #[], guard := none }) rfl (fun K hK => ?_) AllReadyH.nil
        obtain ⟨g8, Y, e_, eY, hG, hB, hge8, hold⟩ := alloc_abs hX.out (.cells #[.int .i64 0, .int .i64 0] 53 (0, 0))
        go_simp
        (try simp only [e_, eY])
        (try have N7 := AsZ.mk (hold _ _ G7.out).2)
        (try replace G7 := AsZ.mk (hold _ _ G7.out).1)
        replace hX := AsZ.mk hB
        have G8 := AsZ.mk hG
        replace hge8 := AsZ.mk hge8
        clear hold hG hB e_ eY
        refine hK.out _ _ ?_ (fun hHeld => ?_)
        · exact hX.out
        clear hK K
        try simp only [Act.put, List.setIfInBounds_toArray, List.set_cons_zero, List.set_cons_succ]
        refine wpAnyH_ready (rs := [13]) (by kernel_rfl) (by simp) ?_
        refine AllReadyH.cons (o := { dst := none, op := Go.Op.store 53 (Go.Operand.tmp 7) (Go.Operand.tmp 19), type := 0, pos := "law.go:24", after := #[{ on := 11, ground := Go.Ground.data }, { on := 4, ground := Go.Ground.data }, { on := 10, ground := Go.Ground.chain }, { on := 0, ground := Go.Ground.phase }, { on := 1, ground := Go.Ground.phase }, { on := 2, ground := Go.Ground.phase }, { on := 3, ground := Go.Ground.phase }, { on := 4, ground := Go.Ground.phase }, { on := 5, ground := Go.Ground.textOnly Go.Departure.lateStores }, { on := 6, ground := Go.Ground.textOnly Go.Departure.lateStores }, { on := 7, ground := Go.Ground.textOnly Go.Departure.lateStores }, { on := 8, ground := Go.Ground.textOnly Go.Departure.lateStores }, { on := 9, ground := Go.Ground.textOnly Go.Departure.lateStores }, { on := 10, ground := Go.Ground.textOnly Go.Departure.lateStoresUnsure }, { on := 11, ground := Go.Ground.phase }, { on := 12, ground := Go.Ground.phase }], guard := none }) rfl (fun K hK => ?_) AllReadyH.nil
        (first | have N78 := AsZ.mk N7.out | have N78 := AsZ.mk N8.out.symm)
        have N87 := AsZ.mk N78.out.symm
        have hq0 := (bCe G7.out 0).trans rfl
        have hq1 := (bCe G7.out 1).trans rfl
        have hf0 := bFz G7.out 0
        have hf1 := bFz G7.out 1
        simp only [List.getElem?_toArray, List.getElem?_cons_zero, List.getElem?_cons_succ] at hq0 hq1
        go_simp
        replace G8 := AsZ.mk (bFr (p := ⟨g7, 1, none⟩) (bFr (p := ⟨g7, 0, none⟩) G8.out N87.out (.int .i64 x1)) N87.out (.int .i64 x2))
        replace G7 := AsZ.mk (blk_set (blk_set G7.out 0 (.int .i64 x1)) 1 (.int .i64 x2))
        replace hX := AsZ.mk ((hX.out.setCell (p := ⟨g7, 0, none⟩) hge7.out (.int .i64 x1)).setCell (p := ⟨g7, 1, none⟩) hge7.out (.int .i64 x2))
        clear hq0 hq1 hf0 hf1
        refine hK.out _ _ ?_ (fun hHeld => ?_)
        · exact hX.out
        clear hK K
        try simp only [Act.put, List.setIfInBounds_toArray, List.set_cons_zero, List.set_cons_succ]
        refine wpAnyH_ready (rs := [14]) (by kernel_rfl) (by simp) ?_
        refine AllReadyH.cons (o := { dst := none, op := Go.Op.store 53 (Go.Operand.tmp 8) (Go.Operand.tmp 25), type := 0, pos := "law.go:24", after := #[{ on := 12, ground := Go.Ground.data }, { on := 10, ground := Go.Ground.data }, { on := 13, ground := Go.Ground.chain }, { on := 0, ground := Go.Ground.phase }, { on := 1, ground := Go.Ground.phase }, { on := 2, ground := Go.Ground.phase }, { on := 3, ground := Go.Ground.phase }, { on := 4, ground := Go.Ground.phase }, { on := 5, ground := Go.Ground.phase }, { on := 6, ground := Go.Ground.phase }, { on := 7, ground := Go.Ground.phase }, { on := 8, ground := Go.Ground.phase }, { on := 9, ground := Go.Ground.phase }, { on := 10, ground := Go.Ground.phase }, { on := 11, ground := Go.Ground.phase }, { on := 12, ground := Go.Ground.phase }, { on := 13, ground := Go.Ground.phase }], guard := none }) rfl (fun K hK => ?_) AllReadyH.nil
        have hq0 := (bCe G8.out 0).trans rfl
        have hq1 := (bCe G8.out 1).trans rfl
        have hf0 := bFz G8.out 0
        have hf1 := bFz G8.out 1
        simp only [List.getElem?_toArray, List.getElem?_cons_zero, List.getElem?_cons_succ] at hq0 hq1
        go_simp
        replace G7 := AsZ.mk (bFr (p := ⟨g8, 1, none⟩) (bFr (p := ⟨g8, 0, none⟩) G7.out N78.out (.int .i64 y1)) N78.out (.int .i64 y2))
        replace G8 := AsZ.mk (blk_set (blk_set G8.out 0 (.int .i64 y1)) 1 (.int .i64 y2))
        replace hX := AsZ.mk ((hX.out.setCell (p := ⟨g8, 0, none⟩) hge8.out (.int .i64 y1)).setCell (p := ⟨g8, 1, none⟩) hge8.out (.int .i64 y2))
        clear hq0 hq1 hf0 hf1
        refine hK.out _ _ ?_ (fun hHeld => ?_)
        · exact hX.out
        clear hK K
        try simp only [Act.put, List.setIfInBounds_toArray, List.set_cons_zero, List.set_cons_succ]
        refine wpAnyH_done (by kernel_rfl) ?_ _
        try simp only [Act.put, List.setIfInBounds_toArray, List.set_cons_zero, List.set_cons_succ, List.getElem_toArray, List.getElem_cons_zero, List.getElem_cons_succ]
        refine NoPanic.normal ?_
        (try dsimp only [Exit.then])
        refine hKz.out _ _ ?_
        clear hHeld
        generalize World.setCell _ _ _ = Z at G7 G8 hX ⊢
        have h70 : Z.cell? ⟨g7, 0, none⟩ = some (.int .i64 x1) := (bCe G7.out 0).trans rfl
        have h71 : Z.cell? ⟨g7, 1, none⟩ = some (.int .i64 x2) := (bCe G7.out 1).trans rfl
        have h81 : Z.cell? ⟨g8, 1, none⟩ = some (.int .i64 y2) := (bCe G8.out 1).trans rfl
        have hr0 : Z.cell? ⟨w.heap.size + 1, 0, none⟩ = some (.int .i64 0) := (bCe (bBl KR.out hX.out) 0).trans rfl
        have hr1 : Z.cell? ⟨w.heap.size + 1, 1, none⟩ = some (.int .i64 0) := (bCe (bBl KR.out hX.out) 1).trans rfl
        have fr0 := bFz (bBl KR.out hX.out) 0
        have fr1 := bFz (bBl KR.out hX.out) 1
        clear G7 G8 hS0 hS1
        by_cases c7 : x2 = 0
        · have d7 : (x2 == 0) = true := by simp [c7]
          have hh := HR.out
          rw [if_pos (.inl c7)] at hh
          obtain ⟨rfl, rfl⟩ := Prod.mk.inj hh
          clear hh HR
          replace c7 := AsZ.mk c7
          go_wp2
          refine bodyPost_ret (results_cell_row rfl _ _ (w.heap.size + 1) 53 #[.int .i64 0, .int .i64 0] (0, 0) _ rfl (blk_set (blk_set (bBl KR.out hX.out) 0 (.int .i64 0)) 1 (.int .i64 0)) Tryd.underlying53 rfl (by kernel_rfl)) rfl ?_
          exact ⟨by first | rfl | simp, ((tBl HB.out hX.out).setCell (p := ⟨w.heap.size + 1, 0, none⟩) (Nat.le_succ _) _).setCell (p := ⟨w.heap.size + 1, 1, none⟩) (Nat.le_succ _) _⟩
        · have d7 : (x2 == 0) = false := by simp [c7]
          by_cases c8 : y2 = 0
          · have d8 : (y2 == 0) = true := by simp [c8]
            have hh := HR.out
            rw [if_pos (.inr c8)] at hh
            obtain ⟨rfl, rfl⟩ := Prod.mk.inj hh
            clear hh HR
            replace c7 := AsZ.mk c7
            replace c8 := AsZ.mk c8
            go_wp2
            refine bodyPost_ret (results_cell_row rfl _ _ (w.heap.size + 1) 53 #[.int .i64 0, .int .i64 0] (0, 0) _ rfl (blk_set (blk_set (bBl KR.out hX.out) 0 (.int .i64 0)) 1 (.int .i64 0)) Tryd.underlying53 rfl (by kernel_rfl)) rfl ?_
            exact ⟨by first | rfl | simp, ((tBl HB.out hX.out).setCell (p := ⟨w.heap.size + 1, 0, none⟩) (Nat.le_succ _) _).setCell (p := ⟨w.heap.size + 1, 1, none⟩) (Nat.le_succ _) _⟩
          · have d8 : (y2 == 0) = false := by simp [c8]
            have hh := HR.out
            rw [if_neg (fun h => h.elim c7 c8)] at hh
            obtain ⟨rfl, rfl⟩ := Prod.mk.inj hh
            clear hh HR
            replace c7 := AsZ.mk c7
            replace c8 := AsZ.mk c8
            go_wp2
            refine bodyPost_ret (results_cell_row rfl _ _ (w.heap.size + 1) 53 #[.int .i64 x1, .int .i64 y2] (0, 0) _ rfl (blk_set (blk_set (bBl KR.out hX.out) 0 (.int .i64 x1)) 1 (.int .i64 y2)) Tryd.underlying53 rfl (by kernel_rfl)) rfl ?_
            exact ⟨by first | rfl | simp, ((tBl HB.out hX.out).setCell (p := ⟨w.heap.size + 1, 0, none⟩) (Nat.le_succ _) _).setCell (p := ⟨w.heap.size + 1, 1, none⟩) (Nat.le_succ _) _⟩
      · obtain ⟨g8, Y, e_, eY, hG, hB, hge8, hold⟩ := alloc_abs hX.out (.cells #[.int .i64 0, .int .i64 0] 53 (0, 0))
        go_simp
        (try simp only [e_, eY])
        (try have N7 := AsZ.mk (hold _ _ G7.out).2)
        (try replace G7 := AsZ.mk (hold _ _ G7.out).1)
        replace hX := AsZ.mk hB
        have G8 := AsZ.mk hG
        replace hge8 := AsZ.mk hge8
        clear hold hG hB e_ eY
        refine hK.out _ _ ?_ (fun hHeld => ?_)
        · exact hX.out
        clear hK K
        try simp only [Act.put, List.setIfInBounds_toArray, List.set_cons_zero, List.set_cons_succ]
        refine wpAnyH_ready (rs := [10]) (by kernel_rfl) (by simp) ?_
        refine AllReadyH.cons (o := { dst := some 25, op := Go.Op.call { callee := Go.Callee.value (Go.Operand.func 52), args := #[Go.Operand.tmp 22, Go.Operand.tmp 23, Go.Operand.tmp 24], argTypes := #[3, 3, 3] }, type := 53, pos := "law.go:24", after := #[{ on := 7, ground := Go.Ground.data }, { on := 8, ground := Go.Ground.data }, { on := 9, ground := Go.Ground.data }, { on := 4, ground := Go.Ground.chain }], guard := none }) rfl (fun K hK => ?_) AllReadyH.nil
        refine goes_ (N := some 25) («as» := #[.tmp 22, .tmp 23, .tmp 24]) Tryd.func52 (by kernel_rfl) rfl #[.int .i64 b1, .int .i64 n, .int .i64 s] (by kernel_rfl) rfl rfl (by kernel_rfl) ?_
        with_reducible refine (CB.out _).mono ?_
        rintro e X ⟨rfl, hb⟩
        refine ⟨_, rfl, ?_⟩
        (try replace G7 := AsZ.mk (bBl G7.out hb))
        (try replace G8 := AsZ.mk (bBl G8.out hb))
        replace hX := AsZ.mk (tBl hX.out hb)
        clear hb
        refine hK.out _ _ ?_ (fun hHeld => ?_)
        · exact hX.out
        clear hK K
        try simp only [Act.put, List.setIfInBounds_toArray, List.set_cons_zero, List.set_cons_succ]
        refine wpAnyH_ready (rs := [13]) (by kernel_rfl) (by simp) ?_
        refine AllReadyH.cons (o := { dst := none, op := Go.Op.store 53 (Go.Operand.tmp 7) (Go.Operand.tmp 19), type := 0, pos := "law.go:24", after := #[{ on := 11, ground := Go.Ground.data }, { on := 4, ground := Go.Ground.data }, { on := 10, ground := Go.Ground.chain }, { on := 0, ground := Go.Ground.phase }, { on := 1, ground := Go.Ground.phase }, { on := 2, ground := Go.Ground.phase }, { on := 3, ground := Go.Ground.phase }, { on := 4, ground := Go.Ground.phase }, { on := 5, ground := Go.Ground.textOnly Go.Departure.lateStores }, { on := 6, ground := Go.Ground.textOnly Go.Departure.lateStores }, { on := 7, ground := Go.Ground.textOnly Go.Departure.lateStores }, { on := 8, ground := Go.Ground.textOnly Go.Departure.lateStores }, { on := 9, ground := Go.Ground.textOnly Go.Departure.lateStores }, { on := 10, ground := Go.Ground.textOnly Go.Departure.lateStoresUnsure }, { on := 11, ground := Go.Ground.phase }, { on := 12, ground := Go.Ground.phase }], guard := none }) rfl (fun K hK => ?_) AllReadyH.nil
        (first | have N78 := AsZ.mk N7.out | have N78 := AsZ.mk N8.out.symm)
        have N87 := AsZ.mk N78.out.symm
        have hq0 := (bCe G7.out 0).trans rfl
        have hq1 := (bCe G7.out 1).trans rfl
        have hf0 := bFz G7.out 0
        have hf1 := bFz G7.out 1
        simp only [List.getElem?_toArray, List.getElem?_cons_zero, List.getElem?_cons_succ] at hq0 hq1
        go_simp
        replace G8 := AsZ.mk (bFr (p := ⟨g7, 1, none⟩) (bFr (p := ⟨g7, 0, none⟩) G8.out N87.out (.int .i64 x1)) N87.out (.int .i64 x2))
        replace G7 := AsZ.mk (blk_set (blk_set G7.out 0 (.int .i64 x1)) 1 (.int .i64 x2))
        replace hX := AsZ.mk ((hX.out.setCell (p := ⟨g7, 0, none⟩) hge7.out (.int .i64 x1)).setCell (p := ⟨g7, 1, none⟩) hge7.out (.int .i64 x2))
        clear hq0 hq1 hf0 hf1
        refine hK.out _ _ ?_ (fun hHeld => ?_)
        · exact hX.out
        clear hK K
        try simp only [Act.put, List.setIfInBounds_toArray, List.set_cons_zero, List.set_cons_succ]
        refine wpAnyH_ready (rs := [14]) (by kernel_rfl) (by simp) ?_
        refine AllReadyH.cons (o := { dst := none, op := Go.Op.store 53 (Go.Operand.tmp 8) (Go.Operand.tmp 25), type := 0, pos := "law.go:24", after := #[{ on := 12, ground := Go.Ground.data }, { on := 10, ground := Go.Ground.data }, { on := 13, ground := Go.Ground.chain }, { on := 0, ground := Go.Ground.phase }, { on := 1, ground := Go.Ground.phase }, { on := 2, ground := Go.Ground.phase }, { on := 3, ground := Go.Ground.phase }, { on := 4, ground := Go.Ground.phase }, { on := 5, ground := Go.Ground.phase }, { on := 6, ground := Go.Ground.phase }, { on := 7, ground := Go.Ground.phase }, { on := 8, ground := Go.Ground.phase }, { on := 9, ground := Go.Ground.phase }, { on := 10, ground := Go.Ground.phase }, { on := 11, ground := Go.Ground.phase }, { on := 12, ground := Go.Ground.phase }, { on := 13, ground := Go.Ground.phase }], guard := none }) rfl (fun K hK => ?_) AllReadyH.nil
        have hq0 := (bCe G8.out 0).trans rfl
        have hq1 := (bCe G8.out 1).trans rfl
        have hf0 := bFz G8.out 0
        have hf1 := bFz G8.out 1
        simp only [List.getElem?_toArray, List.getElem?_cons_zero, List.getElem?_cons_succ] at hq0 hq1
        go_simp
        replace G7 := AsZ.mk (bFr (p := ⟨g8, 1, none⟩) (bFr (p := ⟨g8, 0, none⟩) G7.out N78.out (.int .i64 y1)) N78.out (.int .i64 y2))
        replace G8 := AsZ.mk (blk_set (blk_set G8.out 0 (.int .i64 y1)) 1 (.int .i64 y2))
        replace hX := AsZ.mk ((hX.out.setCell (p := ⟨g8, 0, none⟩) hge8.out (.int .i64 y1)).setCell (p := ⟨g8, 1, none⟩) hge8.out (.int .i64 y2))
        clear hq0 hq1 hf0 hf1
        refine hK.out _ _ ?_ (fun hHeld => ?_)
        · exact hX.out
        clear hK K
        try simp only [Act.put, List.setIfInBounds_toArray, List.set_cons_zero, List.set_cons_succ]
        refine wpAnyH_done (by kernel_rfl) ?_ _
        try simp only [Act.put, List.setIfInBounds_toArray, List.set_cons_zero, List.set_cons_succ, List.getElem_toArray, List.getElem_cons_zero, List.getElem_cons_succ]
        refine NoPanic.normal ?_
        (try dsimp only [Exit.then])
        refine hKz.out _ _ ?_
        clear hHeld
        generalize World.setCell _ _ _ = Z at G7 G8 hX ⊢
        have h70 : Z.cell? ⟨g7, 0, none⟩ = some (.int .i64 x1) := (bCe G7.out 0).trans rfl
        have h71 : Z.cell? ⟨g7, 1, none⟩ = some (.int .i64 x2) := (bCe G7.out 1).trans rfl
        have h81 : Z.cell? ⟨g8, 1, none⟩ = some (.int .i64 y2) := (bCe G8.out 1).trans rfl
        have hr0 : Z.cell? ⟨w.heap.size + 1, 0, none⟩ = some (.int .i64 0) := (bCe (bBl KR.out hX.out) 0).trans rfl
        have hr1 : Z.cell? ⟨w.heap.size + 1, 1, none⟩ = some (.int .i64 0) := (bCe (bBl KR.out hX.out) 1).trans rfl
        have fr0 := bFz (bBl KR.out hX.out) 0
        have fr1 := bFz (bBl KR.out hX.out) 1
        clear G7 G8 hS0 hS1
        by_cases c7 : x2 = 0
        · have d7 : (x2 == 0) = true := by simp [c7]
          have hh := HR.out
          rw [if_pos (.inl c7)] at hh
          obtain ⟨rfl, rfl⟩ := Prod.mk.inj hh
          clear hh HR
          replace c7 := AsZ.mk c7
          go_wp2
          refine bodyPost_ret (results_cell_row rfl _ _ (w.heap.size + 1) 53 #[.int .i64 0, .int .i64 0] (0, 0) _ rfl (blk_set (blk_set (bBl KR.out hX.out) 0 (.int .i64 0)) 1 (.int .i64 0)) Tryd.underlying53 rfl (by kernel_rfl)) rfl ?_
          exact ⟨by first | rfl | simp, ((tBl HB.out hX.out).setCell (p := ⟨w.heap.size + 1, 0, none⟩) (Nat.le_succ _) _).setCell (p := ⟨w.heap.size + 1, 1, none⟩) (Nat.le_succ _) _⟩
        · have d7 : (x2 == 0) = false := by simp [c7]
          by_cases c8 : y2 = 0
          · have d8 : (y2 == 0) = true := by simp [c8]
            have hh := HR.out
            rw [if_pos (.inr c8)] at hh
            obtain ⟨rfl, rfl⟩ := Prod.mk.inj hh
            clear hh HR
            replace c7 := AsZ.mk c7
            replace c8 := AsZ.mk c8
            go_wp2
            refine bodyPost_ret (results_cell_row rfl _ _ (w.heap.size + 1) 53 #[.int .i64 0, .int .i64 0] (0, 0) _ rfl (blk_set (blk_set (bBl KR.out hX.out) 0 (.int .i64 0)) 1 (.int .i64 0)) Tryd.underlying53 rfl (by kernel_rfl)) rfl ?_
            exact ⟨by first | rfl | simp, ((tBl HB.out hX.out).setCell (p := ⟨w.heap.size + 1, 0, none⟩) (Nat.le_succ _) _).setCell (p := ⟨w.heap.size + 1, 1, none⟩) (Nat.le_succ _) _⟩
          · have d8 : (y2 == 0) = false := by simp [c8]
            have hh := HR.out
            rw [if_neg (fun h => h.elim c7 c8)] at hh
            obtain ⟨rfl, rfl⟩ := Prod.mk.inj hh
            clear hh HR
            replace c7 := AsZ.mk c7
            replace c8 := AsZ.mk c8
            go_wp2
            refine bodyPost_ret (results_cell_row rfl _ _ (w.heap.size + 1) 53 #[.int .i64 x1, .int .i64 y2] (0, 0) _ rfl (blk_set (blk_set (bBl KR.out hX.out) 0 (.int .i64 x1)) 1 (.int .i64 y2)) Tryd.underlying53 rfl (by kernel_rfl)) rfl ?_
            exact ⟨by first | rfl | simp, ((tBl HB.out hX.out).setCell (p := ⟨w.heap.size + 1, 0, none⟩) (Nat.le_succ _) _).setCell (p := ⟨w.heap.size + 1, 1, none⟩) (Nat.le_succ _) _⟩
    · obtain ⟨g8, Y, e_, eY, hG, hB, hge8, hold⟩ := alloc_abs hX.out (.cells #[.int .i64 0, .int .i64 0] 53 (0, 0))
      go_simp
      (try simp only [e_, eY])
      (try have N7 := AsZ.mk (hold _ _ G7.out).2)
      (try replace G7 := AsZ.mk (hold _ _ G7.out).1)
      replace hX := AsZ.mk hB
      have G8 := AsZ.mk hG
      replace hge8 := AsZ.mk hge8
      clear hold hG hB e_ eY
      refine hK.out _ _ ?_ (fun hHeld => ?_)
      · exact hX.out
      clear hK K
      try simp only [Act.put, List.setIfInBounds_toArray, List.set_cons_zero, List.set_cons_succ]
      refine wpAnyH_ready (rs := [10, 11]) (by kernel_rfl) (by simp) ?_
      refine AllReadyH.cons (o := { dst := some 25, op := Go.Op.call { callee := Go.Callee.value (Go.Operand.func 52), args := #[Go.Operand.tmp 22, Go.Operand.tmp 23, Go.Operand.tmp 24], argTypes := #[3, 3, 3] }, type := 53, pos := "law.go:24", after := #[{ on := 7, ground := Go.Ground.data }, { on := 8, ground := Go.Ground.data }, { on := 9, ground := Go.Ground.data }, { on := 4, ground := Go.Ground.chain }], guard := none }) rfl (fun K hK => ?_) (AllReadyH.cons (o := { dst := some 7, op := Go.Op.alloc 53, type := 0, pos := "law.go:24", after := #[], guard := none }) rfl (fun K hK => ?_) AllReadyH.nil)
      · refine goes_ (N := some 25) («as» := #[.tmp 22, .tmp 23, .tmp 24]) Tryd.func52 (by kernel_rfl) rfl #[.int .i64 b1, .int .i64 n, .int .i64 s] (by kernel_rfl) rfl rfl (by kernel_rfl) ?_
        with_reducible refine (CB.out _).mono ?_
        rintro e X ⟨rfl, hb⟩
        refine ⟨_, rfl, ?_⟩
        (try replace G7 := AsZ.mk (bBl G7.out hb))
        (try replace G8 := AsZ.mk (bBl G8.out hb))
        replace hX := AsZ.mk (tBl hX.out hb)
        clear hb
        refine hK.out _ _ ?_ (fun hHeld => ?_)
        · exact hX.out
        clear hK K
        try simp only [Act.put, List.setIfInBounds_toArray, List.set_cons_zero, List.set_cons_succ]
        refine wpAnyH_ready (rs := [11]) (by kernel_rfl) (by simp) ?_
        refine AllReadyH.cons (o := { dst := some 7, op := Go.Op.alloc 53, type := 0, pos := "law.go:24", after := #[], guard := none }) rfl (fun K hK => ?_) AllReadyH.nil
        obtain ⟨g7, Y, e_, eY, hG, hB, hge7, hold⟩ := alloc_abs hX.out (.cells #[.int .i64 0, .int .i64 0] 53 (0, 0))
        go_simp
        (try simp only [e_, eY])
        (try have N8 := AsZ.mk (hold _ _ G8.out).2)
        (try replace G8 := AsZ.mk (hold _ _ G8.out).1)
        replace hX := AsZ.mk hB
        have G7 := AsZ.mk hG
        replace hge7 := AsZ.mk hge7
        clear hold hG hB e_ eY
        refine hK.out _ _ ?_ (fun hHeld => ?_)
        · exact hX.out
        clear hK K
        try simp only [Act.put, List.setIfInBounds_toArray, List.set_cons_zero, List.set_cons_succ]
        refine wpAnyH_ready (rs := [13]) (by kernel_rfl) (by simp) ?_
        refine AllReadyH.cons (o := { dst := none, op := Go.Op.store 53 (Go.Operand.tmp 7) (Go.Operand.tmp 19), type := 0, pos := "law.go:24", after := #[{ on := 11, ground := Go.Ground.data }, { on := 4, ground := Go.Ground.data }, { on := 10, ground := Go.Ground.chain }, { on := 0, ground := Go.Ground.phase }, { on := 1, ground := Go.Ground.phase }, { on := 2, ground := Go.Ground.phase }, { on := 3, ground := Go.Ground.phase }, { on := 4, ground := Go.Ground.phase }, { on := 5, ground := Go.Ground.textOnly Go.Departure.lateStores }, { on := 6, ground := Go.Ground.textOnly Go.Departure.lateStores }, { on := 7, ground := Go.Ground.textOnly Go.Departure.lateStores }, { on := 8, ground := Go.Ground.textOnly Go.Departure.lateStores }, { on := 9, ground := Go.Ground.textOnly Go.Departure.lateStores }, { on := 10, ground := Go.Ground.textOnly Go.Departure.lateStoresUnsure }, { on := 11, ground := Go.Ground.phase }, { on := 12, ground := Go.Ground.phase }], guard := none }) rfl (fun K hK => ?_) AllReadyH.nil
        (first | have N78 := AsZ.mk N7.out | have N78 := AsZ.mk N8.out.symm)
        have N87 := AsZ.mk N78.out.symm
        have hq0 := (bCe G7.out 0).trans rfl
        have hq1 := (bCe G7.out 1).trans rfl
        have hf0 := bFz G7.out 0
        have hf1 := bFz G7.out 1
        simp only [List.getElem?_toArray, List.getElem?_cons_zero, List.getElem?_cons_succ] at hq0 hq1
        go_simp
        replace G8 := AsZ.mk (bFr (p := ⟨g7, 1, none⟩) (bFr (p := ⟨g7, 0, none⟩) G8.out N87.out (.int .i64 x1)) N87.out (.int .i64 x2))
        replace G7 := AsZ.mk (blk_set (blk_set G7.out 0 (.int .i64 x1)) 1 (.int .i64 x2))
        replace hX := AsZ.mk ((hX.out.setCell (p := ⟨g7, 0, none⟩) hge7.out (.int .i64 x1)).setCell (p := ⟨g7, 1, none⟩) hge7.out (.int .i64 x2))
        clear hq0 hq1 hf0 hf1
        refine hK.out _ _ ?_ (fun hHeld => ?_)
        · exact hX.out
        clear hK K
        try simp only [Act.put, List.setIfInBounds_toArray, List.set_cons_zero, List.set_cons_succ]
        refine wpAnyH_ready (rs := [14]) (by kernel_rfl) (by simp) ?_
        refine AllReadyH.cons (o := { dst := none, op := Go.Op.store 53 (Go.Operand.tmp 8) (Go.Operand.tmp 25), type := 0, pos := "law.go:24", after := #[{ on := 12, ground := Go.Ground.data }, { on := 10, ground := Go.Ground.data }, { on := 13, ground := Go.Ground.chain }, { on := 0, ground := Go.Ground.phase }, { on := 1, ground := Go.Ground.phase }, { on := 2, ground := Go.Ground.phase }, { on := 3, ground := Go.Ground.phase }, { on := 4, ground := Go.Ground.phase }, { on := 5, ground := Go.Ground.phase }, { on := 6, ground := Go.Ground.phase }, { on := 7, ground := Go.Ground.phase }, { on := 8, ground := Go.Ground.phase }, { on := 9, ground := Go.Ground.phase }, { on := 10, ground := Go.Ground.phase }, { on := 11, ground := Go.Ground.phase }, { on := 12, ground := Go.Ground.phase }, { on := 13, ground := Go.Ground.phase }], guard := none }) rfl (fun K hK => ?_) AllReadyH.nil
        have hq0 := (bCe G8.out 0).trans rfl
        have hq1 := (bCe G8.out 1).trans rfl
        have hf0 := bFz G8.out 0
        have hf1 := bFz G8.out 1
        simp only [List.getElem?_toArray, List.getElem?_cons_zero, List.getElem?_cons_succ] at hq0 hq1
        go_simp
        replace G7 := AsZ.mk (bFr (p := ⟨g8, 1, none⟩) (bFr (p := ⟨g8, 0, none⟩) G7.out N78.out (.int .i64 y1)) N78.out (.int .i64 y2))
        replace G8 := AsZ.mk (blk_set (blk_set G8.out 0 (.int .i64 y1)) 1 (.int .i64 y2))
        replace hX := AsZ.mk ((hX.out.setCell (p := ⟨g8, 0, none⟩) hge8.out (.int .i64 y1)).setCell (p := ⟨g8, 1, none⟩) hge8.out (.int .i64 y2))
        clear hq0 hq1 hf0 hf1
        refine hK.out _ _ ?_ (fun hHeld => ?_)
        · exact hX.out
        clear hK K
        try simp only [Act.put, List.setIfInBounds_toArray, List.set_cons_zero, List.set_cons_succ]
        refine wpAnyH_done (by kernel_rfl) ?_ _
        try simp only [Act.put, List.setIfInBounds_toArray, List.set_cons_zero, List.set_cons_succ, List.getElem_toArray, List.getElem_cons_zero, List.getElem_cons_succ]
        refine NoPanic.normal ?_
        (try dsimp only [Exit.then])
        refine hKz.out _ _ ?_
        clear hHeld
        generalize World.setCell _ _ _ = Z at G7 G8 hX ⊢
        have h70 : Z.cell? ⟨g7, 0, none⟩ = some (.int .i64 x1) := (bCe G7.out 0).trans rfl
        have h71 : Z.cell? ⟨g7, 1, none⟩ = some (.int .i64 x2) := (bCe G7.out 1).trans rfl
        have h81 : Z.cell? ⟨g8, 1, none⟩ = some (.int .i64 y2) := (bCe G8.out 1).trans rfl
        have hr0 : Z.cell? ⟨w.heap.size + 1, 0, none⟩ = some (.int .i64 0) := (bCe (bBl KR.out hX.out) 0).trans rfl
        have hr1 : Z.cell? ⟨w.heap.size + 1, 1, none⟩ = some (.int .i64 0) := (bCe (bBl KR.out hX.out) 1).trans rfl
        have fr0 := bFz (bBl KR.out hX.out) 0
        have fr1 := bFz (bBl KR.out hX.out) 1
        clear G7 G8 hS0 hS1
        by_cases c7 : x2 = 0
        · have d7 : (x2 == 0) = true := by simp [c7]
          have hh := HR.out
          rw [if_pos (.inl c7)] at hh
          obtain ⟨rfl, rfl⟩ := Prod.mk.inj hh
          clear hh HR
          replace c7 := AsZ.mk c7
          go_wp2
          refine bodyPost_ret (results_cell_row rfl _ _ (w.heap.size + 1) 53 #[.int .i64 0, .int .i64 0] (0, 0) _ rfl (blk_set (blk_set (bBl KR.out hX.out) 0 (.int .i64 0)) 1 (.int .i64 0)) Tryd.underlying53 rfl (by kernel_rfl)) rfl ?_
          exact ⟨by first | rfl | simp, ((tBl HB.out hX.out).setCell (p := ⟨w.heap.size + 1, 0, none⟩) (Nat.le_succ _) _).setCell (p := ⟨w.heap.size + 1, 1, none⟩) (Nat.le_succ _) _⟩
        · have d7 : (x2 == 0) = false := by simp [c7]
          by_cases c8 : y2 = 0
          · have d8 : (y2 == 0) = true := by simp [c8]
            have hh := HR.out
            rw [if_pos (.inr c8)] at hh
            obtain ⟨rfl, rfl⟩ := Prod.mk.inj hh
            clear hh HR
            replace c7 := AsZ.mk c7
            replace c8 := AsZ.mk c8
            go_wp2
            refine bodyPost_ret (results_cell_row rfl _ _ (w.heap.size + 1) 53 #[.int .i64 0, .int .i64 0] (0, 0) _ rfl (blk_set (blk_set (bBl KR.out hX.out) 0 (.int .i64 0)) 1 (.int .i64 0)) Tryd.underlying53 rfl (by kernel_rfl)) rfl ?_
            exact ⟨by first | rfl | simp, ((tBl HB.out hX.out).setCell (p := ⟨w.heap.size + 1, 0, none⟩) (Nat.le_succ _) _).setCell (p := ⟨w.heap.size + 1, 1, none⟩) (Nat.le_succ _) _⟩
          · have d8 : (y2 == 0) = false := by simp [c8]
            have hh := HR.out
            rw [if_neg (fun h => h.elim c7 c8)] at hh
            obtain ⟨rfl, rfl⟩ := Prod.mk.inj hh
            clear hh HR
            replace c7 := AsZ.mk c7
            replace c8 := AsZ.mk c8
            go_wp2
            refine bodyPost_ret (results_cell_row rfl _ _ (w.heap.size + 1) 53 #[.int .i64 x1, .int .i64 y2] (0, 0) _ rfl (blk_set (blk_set (bBl KR.out hX.out) 0 (.int .i64 x1)) 1 (.int .i64 y2)) Tryd.underlying53 rfl (by kernel_rfl)) rfl ?_
            exact ⟨by first | rfl | simp, ((tBl HB.out hX.out).setCell (p := ⟨w.heap.size + 1, 0, none⟩) (Nat.le_succ _) _).setCell (p := ⟨w.heap.size + 1, 1, none⟩) (Nat.le_succ _) _⟩
      · obtain ⟨g7, Y, e_, eY, hG, hB, hge7, hold⟩ := alloc_abs hX.out (.cells #[.int .i64 0, .int .i64 0] 53 (0, 0))
        go_simp
        (try simp only [e_, eY])
        (try have N8 := AsZ.mk (hold _ _ G8.out).2)
        (try replace G8 := AsZ.mk (hold _ _ G8.out).1)
        replace hX := AsZ.mk hB
        have G7 := AsZ.mk hG
        replace hge7 := AsZ.mk hge7
        clear hold hG hB e_ eY
        refine hK.out _ _ ?_ (fun hHeld => ?_)
        · exact hX.out
        clear hK K
        try simp only [Act.put, List.setIfInBounds_toArray, List.set_cons_zero, List.set_cons_succ]
        refine wpAnyH_ready (rs := [10]) (by kernel_rfl) (by simp) ?_
        refine AllReadyH.cons (o := { dst := some 25, op := Go.Op.call { callee := Go.Callee.value (Go.Operand.func 52), args := #[Go.Operand.tmp 22, Go.Operand.tmp 23, Go.Operand.tmp 24], argTypes := #[3, 3, 3] }, type := 53, pos := "law.go:24", after := #[{ on := 7, ground := Go.Ground.data }, { on := 8, ground := Go.Ground.data }, { on := 9, ground := Go.Ground.data }, { on := 4, ground := Go.Ground.chain }], guard := none }) rfl (fun K hK => ?_) AllReadyH.nil
        refine goes_ (N := some 25) («as» := #[.tmp 22, .tmp 23, .tmp 24]) Tryd.func52 (by kernel_rfl) rfl #[.int .i64 b1, .int .i64 n, .int .i64 s] (by kernel_rfl) rfl rfl (by kernel_rfl) ?_
        with_reducible refine (CB.out _).mono ?_
        rintro e X ⟨rfl, hb⟩
        refine ⟨_, rfl, ?_⟩
        (try replace G7 := AsZ.mk (bBl G7.out hb))
        (try replace G8 := AsZ.mk (bBl G8.out hb))
        replace hX := AsZ.mk (tBl hX.out hb)
        clear hb
        refine hK.out _ _ ?_ (fun hHeld => ?_)
        · exact hX.out
        clear hK K
        try simp only [Act.put, List.setIfInBounds_toArray, List.set_cons_zero, List.set_cons_succ]
        refine wpAnyH_ready (rs := [13]) (by kernel_rfl) (by simp) ?_
        refine AllReadyH.cons (o := { dst := none, op := Go.Op.store 53 (Go.Operand.tmp 7) (Go.Operand.tmp 19), type := 0, pos := "law.go:24", after := #[{ on := 11, ground := Go.Ground.data }, { on := 4, ground := Go.Ground.data }, { on := 10, ground := Go.Ground.chain }, { on := 0, ground := Go.Ground.phase }, { on := 1, ground := Go.Ground.phase }, { on := 2, ground := Go.Ground.phase }, { on := 3, ground := Go.Ground.phase }, { on := 4, ground := Go.Ground.phase }, { on := 5, ground := Go.Ground.textOnly Go.Departure.lateStores }, { on := 6, ground := Go.Ground.textOnly Go.Departure.lateStores }, { on := 7, ground := Go.Ground.textOnly Go.Departure.lateStores }, { on := 8, ground := Go.Ground.textOnly Go.Departure.lateStores }, { on := 9, ground := Go.Ground.textOnly Go.Departure.lateStores }, { on := 10, ground := Go.Ground.textOnly Go.Departure.lateStoresUnsure }, { on := 11, ground := Go.Ground.phase }, { on := 12, ground := Go.Ground.phase }], guard := none }) rfl (fun K hK => ?_) AllReadyH.nil
        (first | have N78 := AsZ.mk N7.out | have N78 := AsZ.mk N8.out.symm)
        have N87 := AsZ.mk N78.out.symm
        have hq0 := (bCe G7.out 0).trans rfl
        have hq1 := (bCe G7.out 1).trans rfl
        have hf0 := bFz G7.out 0
        have hf1 := bFz G7.out 1
        simp only [List.getElem?_toArray, List.getElem?_cons_zero, List.getElem?_cons_succ] at hq0 hq1
        go_simp
        replace G8 := AsZ.mk (bFr (p := ⟨g7, 1, none⟩) (bFr (p := ⟨g7, 0, none⟩) G8.out N87.out (.int .i64 x1)) N87.out (.int .i64 x2))
        replace G7 := AsZ.mk (blk_set (blk_set G7.out 0 (.int .i64 x1)) 1 (.int .i64 x2))
        replace hX := AsZ.mk ((hX.out.setCell (p := ⟨g7, 0, none⟩) hge7.out (.int .i64 x1)).setCell (p := ⟨g7, 1, none⟩) hge7.out (.int .i64 x2))
        clear hq0 hq1 hf0 hf1
        refine hK.out _ _ ?_ (fun hHeld => ?_)
        · exact hX.out
        clear hK K
        try simp only [Act.put, List.setIfInBounds_toArray, List.set_cons_zero, List.set_cons_succ]
        refine wpAnyH_ready (rs := [14]) (by kernel_rfl) (by simp) ?_
        refine AllReadyH.cons (o := { dst := none, op := Go.Op.store 53 (Go.Operand.tmp 8) (Go.Operand.tmp 25), type := 0, pos := "law.go:24", after := #[{ on := 12, ground := Go.Ground.data }, { on := 10, ground := Go.Ground.data }, { on := 13, ground := Go.Ground.chain }, { on := 0, ground := Go.Ground.phase }, { on := 1, ground := Go.Ground.phase }, { on := 2, ground := Go.Ground.phase }, { on := 3, ground := Go.Ground.phase }, { on := 4, ground := Go.Ground.phase }, { on := 5, ground := Go.Ground.phase }, { on := 6, ground := Go.Ground.phase }, { on := 7, ground := Go.Ground.phase }, { on := 8, ground := Go.Ground.phase }, { on := 9, ground := Go.Ground.phase }, { on := 10, ground := Go.Ground.phase }, { on := 11, ground := Go.Ground.phase }, { on := 12, ground := Go.Ground.phase }, { on := 13, ground := Go.Ground.phase }], guard := none }) rfl (fun K hK => ?_) AllReadyH.nil
        have hq0 := (bCe G8.out 0).trans rfl
        have hq1 := (bCe G8.out 1).trans rfl
        have hf0 := bFz G8.out 0
        have hf1 := bFz G8.out 1
        simp only [List.getElem?_toArray, List.getElem?_cons_zero, List.getElem?_cons_succ] at hq0 hq1
        go_simp
        replace G7 := AsZ.mk (bFr (p := ⟨g8, 1, none⟩) (bFr (p := ⟨g8, 0, none⟩) G7.out N78.out (.int .i64 y1)) N78.out (.int .i64 y2))
        replace G8 := AsZ.mk (blk_set (blk_set G8.out 0 (.int .i64 y1)) 1 (.int .i64 y2))
        replace hX := AsZ.mk ((hX.out.setCell (p := ⟨g8, 0, none⟩) hge8.out (.int .i64 y1)).setCell (p := ⟨g8, 1, none⟩) hge8.out (.int .i64 y2))
        clear hq0 hq1 hf0 hf1
        refine hK.out _ _ ?_ (fun hHeld => ?_)
        · exact hX.out
        clear hK K
        try simp only [Act.put, List.setIfInBounds_toArray, List.set_cons_zero, List.set_cons_succ]
        refine wpAnyH_done (by kernel_rfl) ?_ _
        try simp only [Act.put, List.setIfInBounds_toArray, List.set_cons_zero, List.set_cons_succ, List.getElem_toArray, List.getElem_cons_zero, List.getElem_cons_succ]
        refine NoPanic.normal ?_
        (try dsimp only [Exit.then])
        refine hKz.out _ _ ?_
        clear hHeld
        generalize World.setCell _ _ _ = Z at G7 G8 hX ⊢
        have h70 : Z.cell? ⟨g7, 0, none⟩ = some (.int .i64 x1) := (bCe G7.out 0).trans rfl
        have h71 : Z.cell? ⟨g7, 1, none⟩ = some (.int .i64 x2) := (bCe G7.out 1).trans rfl
        have h81 : Z.cell? ⟨g8, 1, none⟩ = some (.int .i64 y2) := (bCe G8.out 1).trans rfl
        have hr0 : Z.cell? ⟨w.heap.size + 1, 0, none⟩ = some (.int .i64 0) := (bCe (bBl KR.out hX.out) 0).trans rfl
        have hr1 : Z.cell? ⟨w.heap.size + 1, 1, none⟩ = some (.int .i64 0) := (bCe (bBl KR.out hX.out) 1).trans rfl
        have fr0 := bFz (bBl KR.out hX.out) 0
        have fr1 := bFz (bBl KR.out hX.out) 1
        clear G7 G8 hS0 hS1
        by_cases c7 : x2 = 0
        · have d7 : (x2 == 0) = true := by simp [c7]
          have hh := HR.out
          rw [if_pos (.inl c7)] at hh
          obtain ⟨rfl, rfl⟩ := Prod.mk.inj hh
          clear hh HR
          replace c7 := AsZ.mk c7
          go_wp2
          refine bodyPost_ret (results_cell_row rfl _ _ (w.heap.size + 1) 53 #[.int .i64 0, .int .i64 0] (0, 0) _ rfl (blk_set (blk_set (bBl KR.out hX.out) 0 (.int .i64 0)) 1 (.int .i64 0)) Tryd.underlying53 rfl (by kernel_rfl)) rfl ?_
          exact ⟨by first | rfl | simp, ((tBl HB.out hX.out).setCell (p := ⟨w.heap.size + 1, 0, none⟩) (Nat.le_succ _) _).setCell (p := ⟨w.heap.size + 1, 1, none⟩) (Nat.le_succ _) _⟩
        · have d7 : (x2 == 0) = false := by simp [c7]
          by_cases c8 : y2 = 0
          · have d8 : (y2 == 0) = true := by simp [c8]
            have hh := HR.out
            rw [if_pos (.inr c8)] at hh
            obtain ⟨rfl, rfl⟩ := Prod.mk.inj hh
            clear hh HR
            replace c7 := AsZ.mk c7
            replace c8 := AsZ.mk c8
            go_wp2
            refine bodyPost_ret (results_cell_row rfl _ _ (w.heap.size + 1) 53 #[.int .i64 0, .int .i64 0] (0, 0) _ rfl (blk_set (blk_set (bBl KR.out hX.out) 0 (.int .i64 0)) 1 (.int .i64 0)) Tryd.underlying53 rfl (by kernel_rfl)) rfl ?_
            exact ⟨by first | rfl | simp, ((tBl HB.out hX.out).setCell (p := ⟨w.heap.size + 1, 0, none⟩) (Nat.le_succ _) _).setCell (p := ⟨w.heap.size + 1, 1, none⟩) (Nat.le_succ _) _⟩
          · have d8 : (y2 == 0) = false := by simp [c8]
            have hh := HR.out
            rw [if_neg (fun h => h.elim c7 c8)] at hh
            obtain ⟨rfl, rfl⟩ := Prod.mk.inj hh
            clear hh HR
            replace c7 := AsZ.mk c7
            replace c8 := AsZ.mk c8
            go_wp2
            refine bodyPost_ret (results_cell_row rfl _ _ (w.heap.size + 1) 53 #[.int .i64 x1, .int .i64 y2] (0, 0) _ rfl (blk_set (blk_set (bBl KR.out hX.out) 0 (.int .i64 x1)) 1 (.int .i64 y2)) Tryd.underlying53 rfl (by kernel_rfl)) rfl ?_
            exact ⟨by first | rfl | simp, ((tBl HB.out hX.out).setCell (p := ⟨w.heap.size + 1, 0, none⟩) (Nat.le_succ _) _).setCell (p := ⟨w.heap.size + 1, 1, none⟩) (Nat.le_succ _) _⟩
  · obtain ⟨g7, Y, e_, eY, hG, hB, hge7, hold⟩ := alloc_abs hX.out (.cells #[.int .i64 0, .int .i64 0] 53 (0, 0))
    go_simp
    (try simp only [e_, eY])
    (try have N8 := AsZ.mk (hold _ _ G8.out).2)
    (try replace G8 := AsZ.mk (hold _ _ G8.out).1)
    replace hX := AsZ.mk hB
    have G7 := AsZ.mk hG
    replace hge7 := AsZ.mk hge7
    clear hold hG hB e_ eY
    refine hK.out _ _ ?_ (fun hHeld => ?_)
    · exact hX.out
    clear hK K
    try simp only [Act.put, List.setIfInBounds_toArray, List.set_cons_zero, List.set_cons_succ]
    refine wpAnyH_ready (rs := [4, 12]) (by kernel_rfl) (by simp) ?_
    refine AllReadyH.cons (o := { dst := some 19, op := Go.Op.call { callee := Go.Callee.value (Go.Operand.func 52), args := #[Go.Operand.tmp 16, Go.Operand.tmp 17, Go.Operand.tmp 18], argTypes := #[3, 3, 3] }, type := 53, pos := "law.go:24", after := #[{ on := 1, ground := Go.Ground.data }, { on := 2, ground := Go.Ground.data }, { on := 3, ground := Go.Ground.data }], guard := none }) rfl (fun K hK => ?_) (AllReadyH.cons (o := { dst := some 8, op := Go.Op.alloc 53, type := 0, pos := "law.go:24", after := #[], guard := none }) rfl (fun K hK => ?_) AllReadyH.nil)
    · refine goes_ (N := some 19) («as» := #[.tmp 16, .tmp 17, .tmp 18]) Tryd.func52 (by kernel_rfl) rfl #[.int .i64 a0, .int .i64 n, .int .i64 s] (by kernel_rfl) rfl rfl (by kernel_rfl) ?_
      with_reducible refine (CA.out _).mono ?_
      rintro e X ⟨rfl, hb⟩
      refine ⟨_, rfl, ?_⟩
      (try replace G7 := AsZ.mk (bBl G7.out hb))
      (try replace G8 := AsZ.mk (bBl G8.out hb))
      replace hX := AsZ.mk (tBl hX.out hb)
      clear hb
      refine hK.out _ _ ?_ (fun hHeld => ?_)
      · exact hX.out
      clear hK K
      try simp only [Act.put, List.setIfInBounds_toArray, List.set_cons_zero, List.set_cons_succ]
      refine wpAnyH_ready (rs := [10, 12]) (by kernel_rfl) (by simp) ?_
      refine AllReadyH.cons (o := { dst := some 25, op := Go.Op.call { callee := Go.Callee.value (Go.Operand.func 52), args := #[Go.Operand.tmp 22, Go.Operand.tmp 23, Go.Operand.tmp 24], argTypes := #[3, 3, 3] }, type := 53, pos := "law.go:24", after := #[{ on := 7, ground := Go.Ground.data }, { on := 8, ground := Go.Ground.data }, { on := 9, ground := Go.Ground.data }, { on := 4, ground := Go.Ground.chain }], guard := none }) rfl (fun K hK => ?_) (AllReadyH.cons (o := { dst := some 8, op := Go.Op.alloc 53, type := 0, pos := "law.go:24", after := #[], guard := none }) rfl (fun K hK => ?_) AllReadyH.nil)
      · refine goes_ (N := some 25) («as» := #[.tmp 22, .tmp 23, .tmp 24]) Tryd.func52 (by kernel_rfl) rfl #[.int .i64 b1, .int .i64 n, .int .i64 s] (by kernel_rfl) rfl rfl (by kernel_rfl) ?_
        with_reducible refine (CB.out _).mono ?_
        rintro e X ⟨rfl, hb⟩
        refine ⟨_, rfl, ?_⟩
        (try replace G7 := AsZ.mk (bBl G7.out hb))
        (try replace G8 := AsZ.mk (bBl G8.out hb))
        replace hX := AsZ.mk (tBl hX.out hb)
        clear hb
        refine hK.out _ _ ?_ (fun hHeld => ?_)
        · exact hX.out
        clear hK K
        try simp only [Act.put, List.setIfInBounds_toArray, List.set_cons_zero, List.set_cons_succ]
        refine wpAnyH_ready (rs := [12]) (by kernel_rfl) (by simp) ?_
        refine AllReadyH.cons (o := { dst := some 8, op := Go.Op.alloc 53, type := 0, pos := "law.go:24", after := #[], guard := none }) rfl (fun K hK => ?_) AllReadyH.nil
        obtain ⟨g8, Y, e_, eY, hG, hB, hge8, hold⟩ := alloc_abs hX.out (.cells #[.int .i64 0, .int .i64 0] 53 (0, 0))
        go_simp
        (try simp only [e_, eY])
        (try have N7 := AsZ.mk (hold _ _ G7.out).2)
        (try replace G7 := AsZ.mk (hold _ _ G7.out).1)
        replace hX := AsZ.mk hB
        have G8 := AsZ.mk hG
        replace hge8 := AsZ.mk hge8
        clear hold hG hB e_ eY
        refine hK.out _ _ ?_ (fun hHeld => ?_)
        · exact hX.out
        clear hK K
        try simp only [Act.put, List.setIfInBounds_toArray, List.set_cons_zero, List.set_cons_succ]
        refine wpAnyH_ready (rs := [13]) (by kernel_rfl) (by simp) ?_
        refine AllReadyH.cons (o := { dst := none, op := Go.Op.store 53 (Go.Operand.tmp 7) (Go.Operand.tmp 19), type := 0, pos := "law.go:24", after := #[{ on := 11, ground := Go.Ground.data }, { on := 4, ground := Go.Ground.data }, { on := 10, ground := Go.Ground.chain }, { on := 0, ground := Go.Ground.phase }, { on := 1, ground := Go.Ground.phase }, { on := 2, ground := Go.Ground.phase }, { on := 3, ground := Go.Ground.phase }, { on := 4, ground := Go.Ground.phase }, { on := 5, ground := Go.Ground.textOnly Go.Departure.lateStores }, { on := 6, ground := Go.Ground.textOnly Go.Departure.lateStores }, { on := 7, ground := Go.Ground.textOnly Go.Departure.lateStores }, { on := 8, ground := Go.Ground.textOnly Go.Departure.lateStores }, { on := 9, ground := Go.Ground.textOnly Go.Departure.lateStores }, { on := 10, ground := Go.Ground.textOnly Go.Departure.lateStoresUnsure }, { on := 11, ground := Go.Ground.phase }, { on := 12, ground := Go.Ground.phase }], guard := none }) rfl (fun K hK => ?_) AllReadyH.nil
        (first | have N78 := AsZ.mk N7.out | have N78 := AsZ.mk N8.out.symm)
        have N87 := AsZ.mk N78.out.symm
        have hq0 := (bCe G7.out 0).trans rfl
        have hq1 := (bCe G7.out 1).trans rfl
        have hf0 := bFz G7.out 0
        have hf1 := bFz G7.out 1
        simp only [List.getElem?_toArray, List.getElem?_cons_zero, List.getElem?_cons_succ] at hq0 hq1
        go_simp
        replace G8 := AsZ.mk (bFr (p := ⟨g7, 1, none⟩) (bFr (p := ⟨g7, 0, none⟩) G8.out N87.out (.int .i64 x1)) N87.out (.int .i64 x2))
        replace G7 := AsZ.mk (blk_set (blk_set G7.out 0 (.int .i64 x1)) 1 (.int .i64 x2))
        replace hX := AsZ.mk ((hX.out.setCell (p := ⟨g7, 0, none⟩) hge7.out (.int .i64 x1)).setCell (p := ⟨g7, 1, none⟩) hge7.out (.int .i64 x2))
        clear hq0 hq1 hf0 hf1
        refine hK.out _ _ ?_ (fun hHeld => ?_)
        · exact hX.out
        clear hK K
        try simp only [Act.put, List.setIfInBounds_toArray, List.set_cons_zero, List.set_cons_succ]
        refine wpAnyH_ready (rs := [14]) (by kernel_rfl) (by simp) ?_
        refine AllReadyH.cons (o := { dst := none, op := Go.Op.store 53 (Go.Operand.tmp 8) (Go.Operand.tmp 25), type := 0, pos := "law.go:24", after := #[{ on := 12, ground := Go.Ground.data }, { on := 10, ground := Go.Ground.data }, { on := 13, ground := Go.Ground.chain }, { on := 0, ground := Go.Ground.phase }, { on := 1, ground := Go.Ground.phase }, { on := 2, ground := Go.Ground.phase }, { on := 3, ground := Go.Ground.phase }, { on := 4, ground := Go.Ground.phase }, { on := 5, ground := Go.Ground.phase }, { on := 6, ground := Go.Ground.phase }, { on := 7, ground := Go.Ground.phase }, { on := 8, ground := Go.Ground.phase }, { on := 9, ground := Go.Ground.phase }, { on := 10, ground := Go.Ground.phase }, { on := 11, ground := Go.Ground.phase }, { on := 12, ground := Go.Ground.phase }, { on := 13, ground := Go.Ground.phase }], guard := none }) rfl (fun K hK => ?_) AllReadyH.nil
        have hq0 := (bCe G8.out 0).trans rfl
        have hq1 := (bCe G8.out 1).trans rfl
        have hf0 := bFz G8.out 0
        have hf1 := bFz G8.out 1
        simp only [List.getElem?_toArray, List.getElem?_cons_zero, List.getElem?_cons_succ] at hq0 hq1
        go_simp
        replace G7 := AsZ.mk (bFr (p := ⟨g8, 1, none⟩) (bFr (p := ⟨g8, 0, none⟩) G7.out N78.out (.int .i64 y1)) N78.out (.int .i64 y2))
        replace G8 := AsZ.mk (blk_set (blk_set G8.out 0 (.int .i64 y1)) 1 (.int .i64 y2))
        replace hX := AsZ.mk ((hX.out.setCell (p := ⟨g8, 0, none⟩) hge8.out (.int .i64 y1)).setCell (p := ⟨g8, 1, none⟩) hge8.out (.int .i64 y2))
        clear hq0 hq1 hf0 hf1
        refine hK.out _ _ ?_ (fun hHeld => ?_)
        · exact hX.out
        clear hK K
        try simp only [Act.put, List.setIfInBounds_toArray, List.set_cons_zero, List.set_cons_succ]
        refine wpAnyH_done (by kernel_rfl) ?_ _
        try simp only [Act.put, List.setIfInBounds_toArray, List.set_cons_zero, List.set_cons_succ, List.getElem_toArray, List.getElem_cons_zero, List.getElem_cons_succ]
        refine NoPanic.normal ?_
        (try dsimp only [Exit.then])
        refine hKz.out _ _ ?_
        clear hHeld
        generalize World.setCell _ _ _ = Z at G7 G8 hX ⊢
        have h70 : Z.cell? ⟨g7, 0, none⟩ = some (.int .i64 x1) := (bCe G7.out 0).trans rfl
        have h71 : Z.cell? ⟨g7, 1, none⟩ = some (.int .i64 x2) := (bCe G7.out 1).trans rfl
        have h81 : Z.cell? ⟨g8, 1, none⟩ = some (.int .i64 y2) := (bCe G8.out 1).trans rfl
        have hr0 : Z.cell? ⟨w.heap.size + 1, 0, none⟩ = some (.int .i64 0) := (bCe (bBl KR.out hX.out) 0).trans rfl
        have hr1 : Z.cell? ⟨w.heap.size + 1, 1, none⟩ = some (.int .i64 0) := (bCe (bBl KR.out hX.out) 1).trans rfl
        have fr0 := bFz (bBl KR.out hX.out) 0
        have fr1 := bFz (bBl KR.out hX.out) 1
        clear G7 G8 hS0 hS1
        by_cases c7 : x2 = 0
        · have d7 : (x2 == 0) = true := by simp [c7]
          have hh := HR.out
          rw [if_pos (.inl c7)] at hh
          obtain ⟨rfl, rfl⟩ := Prod.mk.inj hh
          clear hh HR
          replace c7 := AsZ.mk c7
          go_wp2
          refine bodyPost_ret (results_cell_row rfl _ _ (w.heap.size + 1) 53 #[.int .i64 0, .int .i64 0] (0, 0) _ rfl (blk_set (blk_set (bBl KR.out hX.out) 0 (.int .i64 0)) 1 (.int .i64 0)) Tryd.underlying53 rfl (by kernel_rfl)) rfl ?_
          exact ⟨by first | rfl | simp, ((tBl HB.out hX.out).setCell (p := ⟨w.heap.size + 1, 0, none⟩) (Nat.le_succ _) _).setCell (p := ⟨w.heap.size + 1, 1, none⟩) (Nat.le_succ _) _⟩
        · have d7 : (x2 == 0) = false := by simp [c7]
          by_cases c8 : y2 = 0
          · have d8 : (y2 == 0) = true := by simp [c8]
            have hh := HR.out
            rw [if_pos (.inr c8)] at hh
            obtain ⟨rfl, rfl⟩ := Prod.mk.inj hh
            clear hh HR
            replace c7 := AsZ.mk c7
            replace c8 := AsZ.mk c8
            go_wp2
            refine bodyPost_ret (results_cell_row rfl _ _ (w.heap.size + 1) 53 #[.int .i64 0, .int .i64 0] (0, 0) _ rfl (blk_set (blk_set (bBl KR.out hX.out) 0 (.int .i64 0)) 1 (.int .i64 0)) Tryd.underlying53 rfl (by kernel_rfl)) rfl ?_
            exact ⟨by first | rfl | simp, ((tBl HB.out hX.out).setCell (p := ⟨w.heap.size + 1, 0, none⟩) (Nat.le_succ _) _).setCell (p := ⟨w.heap.size + 1, 1, none⟩) (Nat.le_succ _) _⟩
          · have d8 : (y2 == 0) = false := by simp [c8]
            have hh := HR.out
            rw [if_neg (fun h => h.elim c7 c8)] at hh
            obtain ⟨rfl, rfl⟩ := Prod.mk.inj hh
            clear hh HR
            replace c7 := AsZ.mk c7
            replace c8 := AsZ.mk c8
            go_wp2
            refine bodyPost_ret (results_cell_row rfl _ _ (w.heap.size + 1) 53 #[.int .i64 x1, .int .i64 y2] (0, 0) _ rfl (blk_set (blk_set (bBl KR.out hX.out) 0 (.int .i64 x1)) 1 (.int .i64 y2)) Tryd.underlying53 rfl (by kernel_rfl)) rfl ?_
            exact ⟨by first | rfl | simp, ((tBl HB.out hX.out).setCell (p := ⟨w.heap.size + 1, 0, none⟩) (Nat.le_succ _) _).setCell (p := ⟨w.heap.size + 1, 1, none⟩) (Nat.le_succ _) _⟩
      · obtain ⟨g8, Y, e_, eY, hG, hB, hge8, hold⟩ := alloc_abs hX.out (.cells #[.int .i64 0, .int .i64 0] 53 (0, 0))
        go_simp
        (try simp only [e_, eY])
        (try have N7 := AsZ.mk (hold _ _ G7.out).2)
        (try replace G7 := AsZ.mk (hold _ _ G7.out).1)
        replace hX := AsZ.mk hB
        have G8 := AsZ.mk hG
        replace hge8 := AsZ.mk hge8
        clear hold hG hB e_ eY
        refine hK.out _ _ ?_ (fun hHeld => ?_)
        · exact hX.out
        clear hK K
        try simp only [Act.put, List.setIfInBounds_toArray, List.set_cons_zero, List.set_cons_succ]
        refine wpAnyH_ready (rs := [10]) (by kernel_rfl) (by simp) ?_
        refine AllReadyH.cons (o := { dst := some 25, op := Go.Op.call { callee := Go.Callee.value (Go.Operand.func 52), args := #[Go.Operand.tmp 22, Go.Operand.tmp 23, Go.Operand.tmp 24], argTypes := #[3, 3, 3] }, type := 53, pos := "law.go:24", after := #[{ on := 7, ground := Go.Ground.data }, { on := 8, ground := Go.Ground.data }, { on := 9, ground := Go.Ground.data }, { on := 4, ground := Go.Ground.chain }], guard := none }) rfl (fun K hK => ?_) AllReadyH.nil
        refine goes_ (N := some 25) («as» := #[.tmp 22, .tmp 23, .tmp 24]) Tryd.func52 (by kernel_rfl) rfl #[.int .i64 b1, .int .i64 n, .int .i64 s] (by kernel_rfl) rfl rfl (by kernel_rfl) ?_
        with_reducible refine (CB.out _).mono ?_
        rintro e X ⟨rfl, hb⟩
        refine ⟨_, rfl, ?_⟩
        (try replace G7 := AsZ.mk (bBl G7.out hb))
        (try replace G8 := AsZ.mk (bBl G8.out hb))
        replace hX := AsZ.mk (tBl hX.out hb)
        clear hb
        refine hK.out _ _ ?_ (fun hHeld => ?_)
        · exact hX.out
        clear hK K
        try simp only [Act.put, List.setIfInBounds_toArray, List.set_cons_zero, List.set_cons_succ]
        refine wpAnyH_ready (rs := [13]) (by kernel_rfl) (by simp) ?_
        refine AllReadyH.cons (o := { dst := none, op := Go.Op.store 53 (Go.Operand.tmp 7) (Go.Operand.tmp 19), type := 0, pos := "law.go:24", after := #[{ on := 11, ground := Go.Ground.data }, { on := 4, ground := Go.Ground.data }, { on := 10, ground := Go.Ground.chain }, { on := 0, ground := Go.Ground.phase }, { on := 1, ground := Go.Ground.phase }, { on := 2, ground := Go.Ground.phase }, { on := 3, ground := Go.Ground.phase }, { on := 4, ground := Go.Ground.phase }, { on := 5, ground := Go.Ground.textOnly Go.Departure.lateStores }, { on := 6, ground := Go.Ground.textOnly Go.Departure.lateStores }, { on := 7, ground := Go.Ground.textOnly Go.Departure.lateStores }, { on := 8, ground := Go.Ground.textOnly Go.Departure.lateStores }, { on := 9, ground := Go.Ground.textOnly Go.Departure.lateStores }, { on := 10, ground := Go.Ground.textOnly Go.Departure.lateStoresUnsure }, { on := 11, ground := Go.Ground.phase }, { on := 12, ground := Go.Ground.phase }], guard := none }) rfl (fun K hK => ?_) AllReadyH.nil
        (first | have N78 := AsZ.mk N7.out | have N78 := AsZ.mk N8.out.symm)
        have N87 := AsZ.mk N78.out.symm
        have hq0 := (bCe G7.out 0).trans rfl
        have hq1 := (bCe G7.out 1).trans rfl
        have hf0 := bFz G7.out 0
        have hf1 := bFz G7.out 1
        simp only [List.getElem?_toArray, List.getElem?_cons_zero, List.getElem?_cons_succ] at hq0 hq1
        go_simp
        replace G8 := AsZ.mk (bFr (p := ⟨g7, 1, none⟩) (bFr (p := ⟨g7, 0, none⟩) G8.out N87.out (.int .i64 x1)) N87.out (.int .i64 x2))
        replace G7 := AsZ.mk (blk_set (blk_set G7.out 0 (.int .i64 x1)) 1 (.int .i64 x2))
        replace hX := AsZ.mk ((hX.out.setCell (p := ⟨g7, 0, none⟩) hge7.out (.int .i64 x1)).setCell (p := ⟨g7, 1, none⟩) hge7.out (.int .i64 x2))
        clear hq0 hq1 hf0 hf1
        refine hK.out _ _ ?_ (fun hHeld => ?_)
        · exact hX.out
        clear hK K
        try simp only [Act.put, List.setIfInBounds_toArray, List.set_cons_zero, List.set_cons_succ]
        refine wpAnyH_ready (rs := [14]) (by kernel_rfl) (by simp) ?_
        refine AllReadyH.cons (o := { dst := none, op := Go.Op.store 53 (Go.Operand.tmp 8) (Go.Operand.tmp 25), type := 0, pos := "law.go:24", after := #[{ on := 12, ground := Go.Ground.data }, { on := 10, ground := Go.Ground.data }, { on := 13, ground := Go.Ground.chain }, { on := 0, ground := Go.Ground.phase }, { on := 1, ground := Go.Ground.phase }, { on := 2, ground := Go.Ground.phase }, { on := 3, ground := Go.Ground.phase }, { on := 4, ground := Go.Ground.phase }, { on := 5, ground := Go.Ground.phase }, { on := 6, ground := Go.Ground.phase }, { on := 7, ground := Go.Ground.phase }, { on := 8, ground := Go.Ground.phase }, { on := 9, ground := Go.Ground.phase }, { on := 10, ground := Go.Ground.phase }, { on := 11, ground := Go.Ground.phase }, { on := 12, ground := Go.Ground.phase }, { on := 13, ground := Go.Ground.phase }], guard := none }) rfl (fun K hK => ?_) AllReadyH.nil
        have hq0 := (bCe G8.out 0).trans rfl
        have hq1 := (bCe G8.out 1).trans rfl
        have hf0 := bFz G8.out 0
        have hf1 := bFz G8.out 1
        simp only [List.getElem?_toArray, List.getElem?_cons_zero, List.getElem?_cons_succ] at hq0 hq1
        go_simp
        replace G7 := AsZ.mk (bFr (p := ⟨g8, 1, none⟩) (bFr (p := ⟨g8, 0, none⟩) G7.out N78.out (.int .i64 y1)) N78.out (.int .i64 y2))
        replace G8 := AsZ.mk (blk_set (blk_set G8.out 0 (.int .i64 y1)) 1 (.int .i64 y2))
        replace hX := AsZ.mk ((hX.out.setCell (p := ⟨g8, 0, none⟩) hge8.out (.int .i64 y1)).setCell (p := ⟨g8, 1, none⟩) hge8.out (.int .i64 y2))
        clear hq0 hq1 hf0 hf1
        refine hK.out _ _ ?_ (fun hHeld => ?_)
        · exact hX.out
        clear hK K
        try simp only [Act.put, List.setIfInBounds_toArray, List.set_cons_zero, List.set_cons_succ]
        refine wpAnyH_done (by kernel_rfl) ?_ _
        try simp only [Act.put, List.setIfInBounds_toArray, List.set_cons_zero, List.set_cons_succ, List.getElem_toArray, List.getElem_cons_zero, List.getElem_cons_succ]
        refine NoPanic.normal ?_
        (try dsimp only [Exit.then])
        refine hKz.out _ _ ?_
        clear hHeld
        generalize World.setCell _ _ _ = Z at G7 G8 hX ⊢
        have h70 : Z.cell? ⟨g7, 0, none⟩ = some (.int .i64 x1) := (bCe G7.out 0).trans rfl
        have h71 : Z.cell? ⟨g7, 1, none⟩ = some (.int .i64 x2) := (bCe G7.out 1).trans rfl
        have h81 : Z.cell? ⟨g8, 1, none⟩ = some (.int .i64 y2) := (bCe G8.out 1).trans rfl
        have hr0 : Z.cell? ⟨w.heap.size + 1, 0, none⟩ = some (.int .i64 0) := (bCe (bBl KR.out hX.out) 0).trans rfl
        have hr1 : Z.cell? ⟨w.heap.size + 1, 1, none⟩ = some (.int .i64 0) := (bCe (bBl KR.out hX.out) 1).trans rfl
        have fr0 := bFz (bBl KR.out hX.out) 0
        have fr1 := bFz (bBl KR.out hX.out) 1
        clear G7 G8 hS0 hS1
        by_cases c7 : x2 = 0
        · have d7 : (x2 == 0) = true := by simp [c7]
          have hh := HR.out
          rw [if_pos (.inl c7)] at hh
          obtain ⟨rfl, rfl⟩ := Prod.mk.inj hh
          clear hh HR
          replace c7 := AsZ.mk c7
          go_wp2
          refine bodyPost_ret (results_cell_row rfl _ _ (w.heap.size + 1) 53 #[.int .i64 0, .int .i64 0] (0, 0) _ rfl (blk_set (blk_set (bBl KR.out hX.out) 0 (.int .i64 0)) 1 (.int .i64 0)) Tryd.underlying53 rfl (by kernel_rfl)) rfl ?_
          exact ⟨by first | rfl | simp, ((tBl HB.out hX.out).setCell (p := ⟨w.heap.size + 1, 0, none⟩) (Nat.le_succ _) _).setCell (p := ⟨w.heap.size + 1, 1, none⟩) (Nat.le_succ _) _⟩
        · have d7 : (x2 == 0) = false := by simp [c7]
          by_cases c8 : y2 = 0
          · have d8 : (y2 == 0) = true := by simp [c8]
            have hh := HR.out
            rw [if_pos (.inr c8)] at hh
            obtain ⟨rfl, rfl⟩ := Prod.mk.inj hh
            clear hh HR
            replace c7 := AsZ.mk c7
            replace c8 := AsZ.mk c8
            go_wp2
            refine bodyPost_ret (results_cell_row rfl _ _ (w.heap.size + 1) 53 #[.int .i64 0, .int .i64 0] (0, 0) _ rfl (blk_set (blk_set (bBl KR.out hX.out) 0 (.int .i64 0)) 1 (.int .i64 0)) Tryd.underlying53 rfl (by kernel_rfl)) rfl ?_
            exact ⟨by first | rfl | simp, ((tBl HB.out hX.out).setCell (p := ⟨w.heap.size + 1, 0, none⟩) (Nat.le_succ _) _).setCell (p := ⟨w.heap.size + 1, 1, none⟩) (Nat.le_succ _) _⟩
          · have d8 : (y2 == 0) = false := by simp [c8]
            have hh := HR.out
            rw [if_neg (fun h => h.elim c7 c8)] at hh
            obtain ⟨rfl, rfl⟩ := Prod.mk.inj hh
            clear hh HR
            replace c7 := AsZ.mk c7
            replace c8 := AsZ.mk c8
            go_wp2
            refine bodyPost_ret (results_cell_row rfl _ _ (w.heap.size + 1) 53 #[.int .i64 x1, .int .i64 y2] (0, 0) _ rfl (blk_set (blk_set (bBl KR.out hX.out) 0 (.int .i64 x1)) 1 (.int .i64 y2)) Tryd.underlying53 rfl (by kernel_rfl)) rfl ?_
            exact ⟨by first | rfl | simp, ((tBl HB.out hX.out).setCell (p := ⟨w.heap.size + 1, 0, none⟩) (Nat.le_succ _) _).setCell (p := ⟨w.heap.size + 1, 1, none⟩) (Nat.le_succ _) _⟩
    · obtain ⟨g8, Y, e_, eY, hG, hB, hge8, hold⟩ := alloc_abs hX.out (.cells #[.int .i64 0, .int .i64 0] 53 (0, 0))
      go_simp
      (try simp only [e_, eY])
      (try have N7 := AsZ.mk (hold _ _ G7.out).2)
      (try replace G7 := AsZ.mk (hold _ _ G7.out).1)
      replace hX := AsZ.mk hB
      have G8 := AsZ.mk hG
      replace hge8 := AsZ.mk hge8
      clear hold hG hB e_ eY
      refine hK.out _ _ ?_ (fun hHeld => ?_)
      · exact hX.out
      clear hK K
      try simp only [Act.put, List.setIfInBounds_toArray, List.set_cons_zero, List.set_cons_succ]
      refine wpAnyH_ready (rs := [4]) (by kernel_rfl) (by simp) ?_
      refine AllReadyH.cons (o := { dst := some 19, op := Go.Op.call { callee := Go.Callee.value (Go.Operand.func 52), args := #[Go.Operand.tmp 16, Go.Operand.tmp 17, Go.Operand.tmp 18], argTypes := #[3, 3, 3] }, type := 53, pos := "law.go:24", after := #[{ on := 1, ground := Go.Ground.data }, { on := 2, ground := Go.Ground.data }, { on := 3, ground := Go.Ground.data }], guard := none }) rfl (fun K hK => ?_) AllReadyH.nil
      refine goes_ (N := some 19) («as» := #[.tmp 16, .tmp 17, .tmp 18]) Tryd.func52 (by kernel_rfl) rfl #[.int .i64 a0, .int .i64 n, .int .i64 s] (by kernel_rfl) rfl rfl (by kernel_rfl) ?_
      with_reducible refine (CA.out _).mono ?_
      rintro e X ⟨rfl, hb⟩
      refine ⟨_, rfl, ?_⟩
      (try replace G7 := AsZ.mk (bBl G7.out hb))
      (try replace G8 := AsZ.mk (bBl G8.out hb))
      replace hX := AsZ.mk (tBl hX.out hb)
      clear hb
      refine hK.out _ _ ?_ (fun hHeld => ?_)
      · exact hX.out
      clear hK K
      try simp only [Act.put, List.setIfInBounds_toArray, List.set_cons_zero, List.set_cons_succ]
      refine wpAnyH_ready (rs := [10]) (by kernel_rfl) (by simp) ?_
      refine AllReadyH.cons (o := { dst := some 25, op := Go.Op.call { callee := Go.Callee.value (Go.Operand.func 52), args := #[Go.Operand.tmp 22, Go.Operand.tmp 23, Go.Operand.tmp 24], argTypes := #[3, 3, 3] }, type := 53, pos := "law.go:24", after := #[{ on := 7, ground := Go.Ground.data }, { on := 8, ground := Go.Ground.data }, { on := 9, ground := Go.Ground.data }, { on := 4, ground := Go.Ground.chain }], guard := none }) rfl (fun K hK => ?_) AllReadyH.nil
      refine goes_ (N := some 25) («as» := #[.tmp 22, .tmp 23, .tmp 24]) Tryd.func52 (by kernel_rfl) rfl #[.int .i64 b1, .int .i64 n, .int .i64 s] (by kernel_rfl) rfl rfl (by kernel_rfl) ?_
      with_reducible refine (CB.out _).mono ?_
      rintro e X ⟨rfl, hb⟩
      refine ⟨_, rfl, ?_⟩
      (try replace G7 := AsZ.mk (bBl G7.out hb))
      (try replace G8 := AsZ.mk (bBl G8.out hb))
      replace hX := AsZ.mk (tBl hX.out hb)
      clear hb
      refine hK.out _ _ ?_ (fun hHeld => ?_)
      · exact hX.out
      clear hK K
      try simp only [Act.put, List.setIfInBounds_toArray, List.set_cons_zero, List.set_cons_succ]
      refine wpAnyH_ready (rs := [13]) (by kernel_rfl) (by simp) ?_
      refine AllReadyH.cons (o := { dst := none, op := Go.Op.store 53 (Go.Operand.tmp 7) (Go.Operand.tmp 19), type := 0, pos := "law.go:24", after := #[{ on := 11, ground := Go.Ground.data }, { on := 4, ground := Go.Ground.data }, { on := 10, ground := Go.Ground.chain }, { on := 0, ground := Go.Ground.phase }, { on := 1, ground := Go.Ground.phase }, { on := 2, ground := Go.Ground.phase }, { on := 3, ground := Go.Ground.phase }, { on := 4, ground := Go.Ground.phase }, { on := 5, ground := Go.Ground.textOnly Go.Departure.lateStores }, { on := 6, ground := Go.Ground.textOnly Go.Departure.lateStores }, { on := 7, ground := Go.Ground.textOnly Go.Departure.lateStores }, { on := 8, ground := Go.Ground.textOnly Go.Departure.lateStores }, { on := 9, ground := Go.Ground.textOnly Go.Departure.lateStores }, { on := 10, ground := Go.Ground.textOnly Go.Departure.lateStoresUnsure }, { on := 11, ground := Go.Ground.phase }, { on := 12, ground := Go.Ground.phase }], guard := none }) rfl (fun K hK => ?_) AllReadyH.nil
      (first | have N78 := AsZ.mk N7.out | have N78 := AsZ.mk N8.out.symm)
      have N87 := AsZ.mk N78.out.symm
      have hq0 := (bCe G7.out 0).trans rfl
      have hq1 := (bCe G7.out 1).trans rfl
      have hf0 := bFz G7.out 0
      have hf1 := bFz G7.out 1
      simp only [List.getElem?_toArray, List.getElem?_cons_zero, List.getElem?_cons_succ] at hq0 hq1
      go_simp
      replace G8 := AsZ.mk (bFr (p := ⟨g7, 1, none⟩) (bFr (p := ⟨g7, 0, none⟩) G8.out N87.out (.int .i64 x1)) N87.out (.int .i64 x2))
      replace G7 := AsZ.mk (blk_set (blk_set G7.out 0 (.int .i64 x1)) 1 (.int .i64 x2))
      replace hX := AsZ.mk ((hX.out.setCell (p := ⟨g7, 0, none⟩) hge7.out (.int .i64 x1)).setCell (p := ⟨g7, 1, none⟩) hge7.out (.int .i64 x2))
      clear hq0 hq1 hf0 hf1
      refine hK.out _ _ ?_ (fun hHeld => ?_)
      · exact hX.out
      clear hK K
      try simp only [Act.put, List.setIfInBounds_toArray, List.set_cons_zero, List.set_cons_succ]
      refine wpAnyH_ready (rs := [14]) (by kernel_rfl) (by simp) ?_
      refine AllReadyH.cons (o := { dst := none, op := Go.Op.store 53 (Go.Operand.tmp 8) (Go.Operand.tmp 25), type := 0, pos := "law.go:24", after := #[{ on := 12, ground := Go.Ground.data }, { on := 10, ground := Go.Ground.data }, { on := 13, ground := Go.Ground.chain }, { on := 0, ground := Go.Ground.phase }, { on := 1, ground := Go.Ground.phase }, { on := 2, ground := Go.Ground.phase }, { on := 3, ground := Go.Ground.phase }, { on := 4, ground := Go.Ground.phase }, { on := 5, ground := Go.Ground.phase }, { on := 6, ground := Go.Ground.phase }, { on := 7, ground := Go.Ground.phase }, { on := 8, ground := Go.Ground.phase }, { on := 9, ground := Go.Ground.phase }, { on := 10, ground := Go.Ground.phase }, { on := 11, ground := Go.Ground.phase }, { on := 12, ground := Go.Ground.phase }, { on := 13, ground := Go.Ground.phase }], guard := none }) rfl (fun K hK => ?_) AllReadyH.nil
      have hq0 := (bCe G8.out 0).trans rfl
      have hq1 := (bCe G8.out 1).trans rfl
      have hf0 := bFz G8.out 0
      have hf1 := bFz G8.out 1
      simp only [List.getElem?_toArray, List.getElem?_cons_zero, List.getElem?_cons_succ] at hq0 hq1
      go_simp
      replace G7 := AsZ.mk (bFr (p := ⟨g8, 1, none⟩) (bFr (p := ⟨g8, 0, none⟩) G7.out N78.out (.int .i64 y1)) N78.out (.int .i64 y2))
      replace G8 := AsZ.mk (blk_set (blk_set G8.out 0 (.int .i64 y1)) 1 (.int .i64 y2))
      replace hX := AsZ.mk ((hX.out.setCell (p := ⟨g8, 0, none⟩) hge8.out (.int .i64 y1)).setCell (p := ⟨g8, 1, none⟩) hge8.out (.int .i64 y2))
      clear hq0 hq1 hf0 hf1
      refine hK.out _ _ ?_ (fun hHeld => ?_)
      · exact hX.out
      clear hK K
      try simp only [Act.put, List.setIfInBounds_toArray, List.set_cons_zero, List.set_cons_succ]
      refine wpAnyH_done (by kernel_rfl) ?_ _
      try simp only [Act.put, List.setIfInBounds_toArray, List.set_cons_zero, List.set_cons_succ, List.getElem_toArray, List.getElem_cons_zero, List.getElem_cons_succ]
      refine NoPanic.normal ?_
      (try dsimp only [Exit.then])
      refine hKz.out _ _ ?_
      clear hHeld
      generalize World.setCell _ _ _ = Z at G7 G8 hX ⊢
      have h70 : Z.cell? ⟨g7, 0, none⟩ = some (.int .i64 x1) := (bCe G7.out 0).trans rfl
      have h71 : Z.cell? ⟨g7, 1, none⟩ = some (.int .i64 x2) := (bCe G7.out 1).trans rfl
      have h81 : Z.cell? ⟨g8, 1, none⟩ = some (.int .i64 y2) := (bCe G8.out 1).trans rfl
      have hr0 : Z.cell? ⟨w.heap.size + 1, 0, none⟩ = some (.int .i64 0) := (bCe (bBl KR.out hX.out) 0).trans rfl
      have hr1 : Z.cell? ⟨w.heap.size + 1, 1, none⟩ = some (.int .i64 0) := (bCe (bBl KR.out hX.out) 1).trans rfl
      have fr0 := bFz (bBl KR.out hX.out) 0
      have fr1 := bFz (bBl KR.out hX.out) 1
      clear G7 G8 hS0 hS1
      by_cases c7 : x2 = 0
      · have d7 : (x2 == 0) = true := by simp [c7]
        have hh := HR.out
        rw [if_pos (.inl c7)] at hh
        obtain ⟨rfl, rfl⟩ := Prod.mk.inj hh
        clear hh HR
        replace c7 := AsZ.mk c7
        go_wp2
        refine bodyPost_ret (results_cell_row rfl _ _ (w.heap.size + 1) 53 #[.int .i64 0, .int .i64 0] (0, 0) _ rfl (blk_set (blk_set (bBl KR.out hX.out) 0 (.int .i64 0)) 1 (.int .i64 0)) Tryd.underlying53 rfl (by kernel_rfl)) rfl ?_
        exact ⟨by first | rfl | simp, ((tBl HB.out hX.out).setCell (p := ⟨w.heap.size + 1, 0, none⟩) (Nat.le_succ _) _).setCell (p := ⟨w.heap.size + 1, 1, none⟩) (Nat.le_succ _) _⟩
      · have d7 : (x2 == 0) = false := by simp [c7]
        by_cases c8 : y2 = 0
        · have d8 : (y2 == 0) = true := by simp [c8]
          have hh := HR.out
          rw [if_pos (.inr c8)] at hh
          obtain ⟨rfl, rfl⟩ := Prod.mk.inj hh
          clear hh HR
          replace c7 := AsZ.mk c7
          replace c8 := AsZ.mk c8
          go_wp2
          refine bodyPost_ret (results_cell_row rfl _ _ (w.heap.size + 1) 53 #[.int .i64 0, .int .i64 0] (0, 0) _ rfl (blk_set (blk_set (bBl KR.out hX.out) 0 (.int .i64 0)) 1 (.int .i64 0)) Tryd.underlying53 rfl (by kernel_rfl)) rfl ?_
          exact ⟨by first | rfl | simp, ((tBl HB.out hX.out).setCell (p := ⟨w.heap.size + 1, 0, none⟩) (Nat.le_succ _) _).setCell (p := ⟨w.heap.size + 1, 1, none⟩) (Nat.le_succ _) _⟩
        · have d8 : (y2 == 0) = false := by simp [c8]
          have hh := HR.out
          rw [if_neg (fun h => h.elim c7 c8)] at hh
          obtain ⟨rfl, rfl⟩ := Prod.mk.inj hh
          clear hh HR
          replace c7 := AsZ.mk c7
          replace c8 := AsZ.mk c8
          go_wp2
          refine bodyPost_ret (results_cell_row rfl _ _ (w.heap.size + 1) 53 #[.int .i64 x1, .int .i64 y2] (0, 0) _ rfl (blk_set (blk_set (bBl KR.out hX.out) 0 (.int .i64 x1)) 1 (.int .i64 y2)) Tryd.underlying53 rfl (by kernel_rfl)) rfl ?_
          exact ⟨by first | rfl | simp, ((tBl HB.out hX.out).setCell (p := ⟨w.heap.size + 1, 0, none⟩) (Nat.le_succ _) _).setCell (p := ⟨w.heap.size + 1, 1, none⟩) (Nat.le_succ _) _⟩
  · obtain ⟨g8, Y, e_, eY, hG, hB, hge8, hold⟩ := alloc_abs hX.out (.cells #[.int .i64 0, .int .i64 0] 53 (0, 0))
    go_simp
    (try simp only [e_, eY])
    (try have N7 := AsZ.mk (hold _ _ G7.out).2)
    (try replace G7 := AsZ.mk (hold _ _ G7.out).1)
    replace hX := AsZ.mk hB
    have G8 := AsZ.mk hG
    replace hge8 := AsZ.mk hge8
    clear hold hG hB e_ eY
    refine hK.out _ _ ?_ (fun hHeld => ?_)
    · exact hX.out
    clear hK K
    try simp only [Act.put, List.setIfInBounds_toArray, List.set_cons_zero, List.set_cons_succ]
    refine wpAnyH_ready (rs := [4, 11]) (by kernel_rfl) (by simp) ?_
    refine AllReadyH.cons (o := { dst := some 19, op := Go.Op.call { callee := Go.Callee.value (Go.Operand.func 52), args := #[Go.Operand.tmp 16, Go.Operand.tmp 17, Go.Operand.tmp 18], argTypes := #[3, 3, 3] }, type := 53, pos := "law.go:24", after := #[{ on := 1, ground := Go.Ground.data }, { on := 2, ground := Go.Ground.data }, { on := 3, ground := Go.Ground.data }], guard := none }) rfl (fun K hK => ?_) (AllReadyH.cons (o := { dst := some 7, op := Go.Op.alloc 53, type := 0, pos := "law.go:24", after := #[], guard := none }) rfl (fun K hK => ?_) AllReadyH.nil)
    · refine goes_ (N := some 19) («as» := #[.tmp 16, .tmp 17, .tmp 18]) Tryd.func52 (by kernel_rfl) rfl #[.int .i64 a0, .int .i64 n, .int .i64 s] (by kernel_rfl) rfl rfl (by kernel_rfl) ?_
      with_reducible refine (CA.out _).mono ?_
      rintro e X ⟨rfl, hb⟩
      refine ⟨_, rfl, ?_⟩
      (try replace G7 := AsZ.mk (bBl G7.out hb))
      (try replace G8 := AsZ.mk (bBl G8.out hb))
      replace hX := AsZ.mk (tBl hX.out hb)
      clear hb
      refine hK.out _ _ ?_ (fun hHeld => ?_)
      · exact hX.out
      clear hK K
      try simp only [Act.put, List.setIfInBounds_toArray, List.set_cons_zero, List.set_cons_succ]
      refine wpAnyH_ready (rs := [10, 11]) (by kernel_rfl) (by simp) ?_
      refine AllReadyH.cons (o := { dst := some 25, op := Go.Op.call { callee := Go.Callee.value (Go.Operand.func 52), args := #[Go.Operand.tmp 22, Go.Operand.tmp 23, Go.Operand.tmp 24], argTypes := #[3, 3, 3] }, type := 53, pos := "law.go:24", after := #[{ on := 7, ground := Go.Ground.data }, { on := 8, ground := Go.Ground.data }, { on := 9, ground := Go.Ground.data }, { on := 4, ground := Go.Ground.chain }], guard := none }) rfl (fun K hK => ?_) (AllReadyH.cons (o := { dst := some 7, op := Go.Op.alloc 53, type := 0, pos := "law.go:24", after := #[], guard := none }) rfl (fun K hK => ?_) AllReadyH.nil)
      · refine goes_ (N := some 25) («as» := #[.tmp 22, .tmp 23, .tmp 24]) Tryd.func52 (by kernel_rfl) rfl #[.int .i64 b1, .int .i64 n, .int .i64 s] (by kernel_rfl) rfl rfl (by kernel_rfl) ?_
        with_reducible refine (CB.out _).mono ?_
        rintro e X ⟨rfl, hb⟩
        refine ⟨_, rfl, ?_⟩
        (try replace G7 := AsZ.mk (bBl G7.out hb))
        (try replace G8 := AsZ.mk (bBl G8.out hb))
        replace hX := AsZ.mk (tBl hX.out hb)
        clear hb
        refine hK.out _ _ ?_ (fun hHeld => ?_)
        · exact hX.out
        clear hK K
        try simp only [Act.put, List.setIfInBounds_toArray, List.set_cons_zero, List.set_cons_succ]
        refine wpAnyH_ready (rs := [11]) (by kernel_rfl) (by simp) ?_
        refine AllReadyH.cons (o := { dst := some 7, op := Go.Op.alloc 53, type := 0, pos := "law.go:24", after := #[], guard := none }) rfl (fun K hK => ?_) AllReadyH.nil
        obtain ⟨g7, Y, e_, eY, hG, hB, hge7, hold⟩ := alloc_abs hX.out (.cells #[.int .i64 0, .int .i64 0] 53 (0, 0))
        go_simp
        (try simp only [e_, eY])
        (try have N8 := AsZ.mk (hold _ _ G8.out).2)
        (try replace G8 := AsZ.mk (hold _ _ G8.out).1)
        replace hX := AsZ.mk hB
        have G7 := AsZ.mk hG
        replace hge7 := AsZ.mk hge7
        clear hold hG hB e_ eY
        refine hK.out _ _ ?_ (fun hHeld => ?_)
        · exact hX.out
        clear hK K
        try simp only [Act.put, List.setIfInBounds_toArray, List.set_cons_zero, List.set_cons_succ]
        refine wpAnyH_ready (rs := [13]) (by kernel_rfl) (by simp) ?_
        refine AllReadyH.cons (o := { dst := none, op := Go.Op.store 53 (Go.Operand.tmp 7) (Go.Operand.tmp 19), type := 0, pos := "law.go:24", after := #[{ on := 11, ground := Go.Ground.data }, { on := 4, ground := Go.Ground.data }, { on := 10, ground := Go.Ground.chain }, { on := 0, ground := Go.Ground.phase }, { on := 1, ground := Go.Ground.phase }, { on := 2, ground := Go.Ground.phase }, { on := 3, ground := Go.Ground.phase }, { on := 4, ground := Go.Ground.phase }, { on := 5, ground := Go.Ground.textOnly Go.Departure.lateStores }, { on := 6, ground := Go.Ground.textOnly Go.Departure.lateStores }, { on := 7, ground := Go.Ground.textOnly Go.Departure.lateStores }, { on := 8, ground := Go.Ground.textOnly Go.Departure.lateStores }, { on := 9, ground := Go.Ground.textOnly Go.Departure.lateStores }, { on := 10, ground := Go.Ground.textOnly Go.Departure.lateStoresUnsure }, { on := 11, ground := Go.Ground.phase }, { on := 12, ground := Go.Ground.phase }], guard := none }) rfl (fun K hK => ?_) AllReadyH.nil
        (first | have N78 := AsZ.mk N7.out | have N78 := AsZ.mk N8.out.symm)
        have N87 := AsZ.mk N78.out.symm
        have hq0 := (bCe G7.out 0).trans rfl
        have hq1 := (bCe G7.out 1).trans rfl
        have hf0 := bFz G7.out 0
        have hf1 := bFz G7.out 1
        simp only [List.getElem?_toArray, List.getElem?_cons_zero, List.getElem?_cons_succ] at hq0 hq1
        go_simp
        replace G8 := AsZ.mk (bFr (p := ⟨g7, 1, none⟩) (bFr (p := ⟨g7, 0, none⟩) G8.out N87.out (.int .i64 x1)) N87.out (.int .i64 x2))
        replace G7 := AsZ.mk (blk_set (blk_set G7.out 0 (.int .i64 x1)) 1 (.int .i64 x2))
        replace hX := AsZ.mk ((hX.out.setCell (p := ⟨g7, 0, none⟩) hge7.out (.int .i64 x1)).setCell (p := ⟨g7, 1, none⟩) hge7.out (.int .i64 x2))
        clear hq0 hq1 hf0 hf1
        refine hK.out _ _ ?_ (fun hHeld => ?_)
        · exact hX.out
        clear hK K
        try simp only [Act.put, List.setIfInBounds_toArray, List.set_cons_zero, List.set_cons_succ]
        refine wpAnyH_ready (rs := [14]) (by kernel_rfl) (by simp) ?_
        refine AllReadyH.cons (o := { dst := none, op := Go.Op.store 53 (Go.Operand.tmp 8) (Go.Operand.tmp 25), type := 0, pos := "law.go:24", after := #[{ on := 12, ground := Go.Ground.data }, { on := 10, ground := Go.Ground.data }, { on := 13, ground := Go.Ground.chain }, { on := 0, ground := Go.Ground.phase }, { on := 1, ground := Go.Ground.phase }, { on := 2, ground := Go.Ground.phase }, { on := 3, ground := Go.Ground.phase }, { on := 4, ground := Go.Ground.phase }, { on := 5, ground := Go.Ground.phase }, { on := 6, ground := Go.Ground.phase }, { on := 7, ground := Go.Ground.phase }, { on := 8, ground := Go.Ground.phase }, { on := 9, ground := Go.Ground.phase }, { on := 10, ground := Go.Ground.phase }, { on := 11, ground := Go.Ground.phase }, { on := 12, ground := Go.Ground.phase }, { on := 13, ground := Go.Ground.phase }], guard := none }) rfl (fun K hK => ?_) AllReadyH.nil
        have hq0 := (bCe G8.out 0).trans rfl
        have hq1 := (bCe G8.out 1).trans rfl
        have hf0 := bFz G8.out 0
        have hf1 := bFz G8.out 1
        simp only [List.getElem?_toArray, List.getElem?_cons_zero, List.getElem?_cons_succ] at hq0 hq1
        go_simp
        replace G7 := AsZ.mk (bFr (p := ⟨g8, 1, none⟩) (bFr (p := ⟨g8, 0, none⟩) G7.out N78.out (.int .i64 y1)) N78.out (.int .i64 y2))
        replace G8 := AsZ.mk (blk_set (blk_set G8.out 0 (.int .i64 y1)) 1 (.int .i64 y2))
        replace hX := AsZ.mk ((hX.out.setCell (p := ⟨g8, 0, none⟩) hge8.out (.int .i64 y1)).setCell (p := ⟨g8, 1, none⟩) hge8.out (.int .i64 y2))
        clear hq0 hq1 hf0 hf1
        refine hK.out _ _ ?_ (fun hHeld => ?_)
        · exact hX.out
        clear hK K
        try simp only [Act.put, List.setIfInBounds_toArray, List.set_cons_zero, List.set_cons_succ]
        refine wpAnyH_done (by kernel_rfl) ?_ _
        try simp only [Act.put, List.setIfInBounds_toArray, List.set_cons_zero, List.set_cons_succ, List.getElem_toArray, List.getElem_cons_zero, List.getElem_cons_succ]
        refine NoPanic.normal ?_
        (try dsimp only [Exit.then])
        refine hKz.out _ _ ?_
        clear hHeld
        generalize World.setCell _ _ _ = Z at G7 G8 hX ⊢
        have h70 : Z.cell? ⟨g7, 0, none⟩ = some (.int .i64 x1) := (bCe G7.out 0).trans rfl
        have h71 : Z.cell? ⟨g7, 1, none⟩ = some (.int .i64 x2) := (bCe G7.out 1).trans rfl
        have h81 : Z.cell? ⟨g8, 1, none⟩ = some (.int .i64 y2) := (bCe G8.out 1).trans rfl
        have hr0 : Z.cell? ⟨w.heap.size + 1, 0, none⟩ = some (.int .i64 0) := (bCe (bBl KR.out hX.out) 0).trans rfl
        have hr1 : Z.cell? ⟨w.heap.size + 1, 1, none⟩ = some (.int .i64 0) := (bCe (bBl KR.out hX.out) 1).trans rfl
        have fr0 := bFz (bBl KR.out hX.out) 0
        have fr1 := bFz (bBl KR.out hX.out) 1
        clear G7 G8 hS0 hS1
        by_cases c7 : x2 = 0
        · have d7 : (x2 == 0) = true := by simp [c7]
          have hh := HR.out
          rw [if_pos (.inl c7)] at hh
          obtain ⟨rfl, rfl⟩ := Prod.mk.inj hh
          clear hh HR
          replace c7 := AsZ.mk c7
          go_wp2
          refine bodyPost_ret (results_cell_row rfl _ _ (w.heap.size + 1) 53 #[.int .i64 0, .int .i64 0] (0, 0) _ rfl (blk_set (blk_set (bBl KR.out hX.out) 0 (.int .i64 0)) 1 (.int .i64 0)) Tryd.underlying53 rfl (by kernel_rfl)) rfl ?_
          exact ⟨by first | rfl | simp, ((tBl HB.out hX.out).setCell (p := ⟨w.heap.size + 1, 0, none⟩) (Nat.le_succ _) _).setCell (p := ⟨w.heap.size + 1, 1, none⟩) (Nat.le_succ _) _⟩
        · have d7 : (x2 == 0) = false := by simp [c7]
          by_cases c8 : y2 = 0
          · have d8 : (y2 == 0) = true := by simp [c8]
            have hh := HR.out
            rw [if_pos (.inr c8)] at hh
            obtain ⟨rfl, rfl⟩ := Prod.mk.inj hh
            clear hh HR
            replace c7 := AsZ.mk c7
            replace c8 := AsZ.mk c8
            go_wp2
            refine bodyPost_ret (results_cell_row rfl _ _ (w.heap.size + 1) 53 #[.int .i64 0, .int .i64 0] (0, 0) _ rfl (blk_set (blk_set (bBl KR.out hX.out) 0 (.int .i64 0)) 1 (.int .i64 0)) Tryd.underlying53 rfl (by kernel_rfl)) rfl ?_
            exact ⟨by first | rfl | simp, ((tBl HB.out hX.out).setCell (p := ⟨w.heap.size + 1, 0, none⟩) (Nat.le_succ _) _).setCell (p := ⟨w.heap.size + 1, 1, none⟩) (Nat.le_succ _) _⟩
          · have d8 : (y2 == 0) = false := by simp [c8]
            have hh := HR.out
            rw [if_neg (fun h => h.elim c7 c8)] at hh
            obtain ⟨rfl, rfl⟩ := Prod.mk.inj hh
            clear hh HR
            replace c7 := AsZ.mk c7
            replace c8 := AsZ.mk c8
            go_wp2
            refine bodyPost_ret (results_cell_row rfl _ _ (w.heap.size + 1) 53 #[.int .i64 x1, .int .i64 y2] (0, 0) _ rfl (blk_set (blk_set (bBl KR.out hX.out) 0 (.int .i64 x1)) 1 (.int .i64 y2)) Tryd.underlying53 rfl (by kernel_rfl)) rfl ?_
            exact ⟨by first | rfl | simp, ((tBl HB.out hX.out).setCell (p := ⟨w.heap.size + 1, 0, none⟩) (Nat.le_succ _) _).setCell (p := ⟨w.heap.size + 1, 1, none⟩) (Nat.le_succ _) _⟩
      · obtain ⟨g7, Y, e_, eY, hG, hB, hge7, hold⟩ := alloc_abs hX.out (.cells #[.int .i64 0, .int .i64 0] 53 (0, 0))
        go_simp
        (try simp only [e_, eY])
        (try have N8 := AsZ.mk (hold _ _ G8.out).2)
        (try replace G8 := AsZ.mk (hold _ _ G8.out).1)
        replace hX := AsZ.mk hB
        have G7 := AsZ.mk hG
        replace hge7 := AsZ.mk hge7
        clear hold hG hB e_ eY
        refine hK.out _ _ ?_ (fun hHeld => ?_)
        · exact hX.out
        clear hK K
        try simp only [Act.put, List.setIfInBounds_toArray, List.set_cons_zero, List.set_cons_succ]
        refine wpAnyH_ready (rs := [10]) (by kernel_rfl) (by simp) ?_
        refine AllReadyH.cons (o := { dst := some 25, op := Go.Op.call { callee := Go.Callee.value (Go.Operand.func 52), args := #[Go.Operand.tmp 22, Go.Operand.tmp 23, Go.Operand.tmp 24], argTypes := #[3, 3, 3] }, type := 53, pos := "law.go:24", after := #[{ on := 7, ground := Go.Ground.data }, { on := 8, ground := Go.Ground.data }, { on := 9, ground := Go.Ground.data }, { on := 4, ground := Go.Ground.chain }], guard := none }) rfl (fun K hK => ?_) AllReadyH.nil
        refine goes_ (N := some 25) («as» := #[.tmp 22, .tmp 23, .tmp 24]) Tryd.func52 (by kernel_rfl) rfl #[.int .i64 b1, .int .i64 n, .int .i64 s] (by kernel_rfl) rfl rfl (by kernel_rfl) ?_
        with_reducible refine (CB.out _).mono ?_
        rintro e X ⟨rfl, hb⟩
        refine ⟨_, rfl, ?_⟩
        (try replace G7 := AsZ.mk (bBl G7.out hb))
        (try replace G8 := AsZ.mk (bBl G8.out hb))
        replace hX := AsZ.mk (tBl hX.out hb)
        clear hb
        refine hK.out _ _ ?_ (fun hHeld => ?_)
        · exact hX.out
        clear hK K
        try simp only [Act.put, List.setIfInBounds_toArray, List.set_cons_zero, List.set_cons_succ]
        refine wpAnyH_ready (rs := [13]) (by kernel_rfl) (by simp) ?_
        refine AllReadyH.cons (o := { dst := none, op := Go.Op.store 53 (Go.Operand.tmp 7) (Go.Operand.tmp 19), type := 0, pos := "law.go:24", after := #[{ on := 11, ground := Go.Ground.data }, { on := 4, ground := Go.Ground.data }, { on := 10, ground := Go.Ground.chain }, { on := 0, ground := Go.Ground.phase }, { on := 1, ground := Go.Ground.phase }, { on := 2, ground := Go.Ground.phase }, { on := 3, ground := Go.Ground.phase }, { on := 4, ground := Go.Ground.phase }, { on := 5, ground := Go.Ground.textOnly Go.Departure.lateStores }, { on := 6, ground := Go.Ground.textOnly Go.Departure.lateStores }, { on := 7, ground := Go.Ground.textOnly Go.Departure.lateStores }, { on := 8, ground := Go.Ground.textOnly Go.Departure.lateStores }, { on := 9, ground := Go.Ground.textOnly Go.Departure.lateStores }, { on := 10, ground := Go.Ground.textOnly Go.Departure.lateStoresUnsure }, { on := 11, ground := Go.Ground.phase }, { on := 12, ground := Go.Ground.phase }], guard := none }) rfl (fun K hK => ?_) AllReadyH.nil
        (first | have N78 := AsZ.mk N7.out | have N78 := AsZ.mk N8.out.symm)
        have N87 := AsZ.mk N78.out.symm
        have hq0 := (bCe G7.out 0).trans rfl
        have hq1 := (bCe G7.out 1).trans rfl
        have hf0 := bFz G7.out 0
        have hf1 := bFz G7.out 1
        simp only [List.getElem?_toArray, List.getElem?_cons_zero, List.getElem?_cons_succ] at hq0 hq1
        go_simp
        replace G8 := AsZ.mk (bFr (p := ⟨g7, 1, none⟩) (bFr (p := ⟨g7, 0, none⟩) G8.out N87.out (.int .i64 x1)) N87.out (.int .i64 x2))
        replace G7 := AsZ.mk (blk_set (blk_set G7.out 0 (.int .i64 x1)) 1 (.int .i64 x2))
        replace hX := AsZ.mk ((hX.out.setCell (p := ⟨g7, 0, none⟩) hge7.out (.int .i64 x1)).setCell (p := ⟨g7, 1, none⟩) hge7.out (.int .i64 x2))
        clear hq0 hq1 hf0 hf1
        refine hK.out _ _ ?_ (fun hHeld => ?_)
        · exact hX.out
        clear hK K
        try simp only [Act.put, List.setIfInBounds_toArray, List.set_cons_zero, List.set_cons_succ]
        refine wpAnyH_ready (rs := [14]) (by kernel_rfl) (by simp) ?_
        refine AllReadyH.cons (o := { dst := none, op := Go.Op.store 53 (Go.Operand.tmp 8) (Go.Operand.tmp 25), type := 0, pos := "law.go:24", after := #[{ on := 12, ground := Go.Ground.data }, { on := 10, ground := Go.Ground.data }, { on := 13, ground := Go.Ground.chain }, { on := 0, ground := Go.Ground.phase }, { on := 1, ground := Go.Ground.phase }, { on := 2, ground := Go.Ground.phase }, { on := 3, ground := Go.Ground.phase }, { on := 4, ground := Go.Ground.phase }, { on := 5, ground := Go.Ground.phase }, { on := 6, ground := Go.Ground.phase }, { on := 7, ground := Go.Ground.phase }, { on := 8, ground := Go.Ground.phase }, { on := 9, ground := Go.Ground.phase }, { on := 10, ground := Go.Ground.phase }, { on := 11, ground := Go.Ground.phase }, { on := 12, ground := Go.Ground.phase }, { on := 13, ground := Go.Ground.phase }], guard := none }) rfl (fun K hK => ?_) AllReadyH.nil
        have hq0 := (bCe G8.out 0).trans rfl
        have hq1 := (bCe G8.out 1).trans rfl
        have hf0 := bFz G8.out 0
        have hf1 := bFz G8.out 1
        simp only [List.getElem?_toArray, List.getElem?_cons_zero, List.getElem?_cons_succ] at hq0 hq1
        go_simp
        replace G7 := AsZ.mk (bFr (p := ⟨g8, 1, none⟩) (bFr (p := ⟨g8, 0, none⟩) G7.out N78.out (.int .i64 y1)) N78.out (.int .i64 y2))
        replace G8 := AsZ.mk (blk_set (blk_set G8.out 0 (.int .i64 y1)) 1 (.int .i64 y2))
        replace hX := AsZ.mk ((hX.out.setCell (p := ⟨g8, 0, none⟩) hge8.out (.int .i64 y1)).setCell (p := ⟨g8, 1, none⟩) hge8.out (.int .i64 y2))
        clear hq0 hq1 hf0 hf1
        refine hK.out _ _ ?_ (fun hHeld => ?_)
        · exact hX.out
        clear hK K
        try simp only [Act.put, List.setIfInBounds_toArray, List.set_cons_zero, List.set_cons_succ]
        refine wpAnyH_done (by kernel_rfl) ?_ _
        try simp only [Act.put, List.setIfInBounds_toArray, List.set_cons_zero, List.set_cons_succ, List.getElem_toArray, List.getElem_cons_zero, List.getElem_cons_succ]
        refine NoPanic.normal ?_
        (try dsimp only [Exit.then])
        refine hKz.out _ _ ?_
        clear hHeld
        generalize World.setCell _ _ _ = Z at G7 G8 hX ⊢
        have h70 : Z.cell? ⟨g7, 0, none⟩ = some (.int .i64 x1) := (bCe G7.out 0).trans rfl
        have h71 : Z.cell? ⟨g7, 1, none⟩ = some (.int .i64 x2) := (bCe G7.out 1).trans rfl
        have h81 : Z.cell? ⟨g8, 1, none⟩ = some (.int .i64 y2) := (bCe G8.out 1).trans rfl
        have hr0 : Z.cell? ⟨w.heap.size + 1, 0, none⟩ = some (.int .i64 0) := (bCe (bBl KR.out hX.out) 0).trans rfl
        have hr1 : Z.cell? ⟨w.heap.size + 1, 1, none⟩ = some (.int .i64 0) := (bCe (bBl KR.out hX.out) 1).trans rfl
        have fr0 := bFz (bBl KR.out hX.out) 0
        have fr1 := bFz (bBl KR.out hX.out) 1
        clear G7 G8 hS0 hS1
        by_cases c7 : x2 = 0
        · have d7 : (x2 == 0) = true := by simp [c7]
          have hh := HR.out
          rw [if_pos (.inl c7)] at hh
          obtain ⟨rfl, rfl⟩ := Prod.mk.inj hh
          clear hh HR
          replace c7 := AsZ.mk c7
          go_wp2
          refine bodyPost_ret (results_cell_row rfl _ _ (w.heap.size + 1) 53 #[.int .i64 0, .int .i64 0] (0, 0) _ rfl (blk_set (blk_set (bBl KR.out hX.out) 0 (.int .i64 0)) 1 (.int .i64 0)) Tryd.underlying53 rfl (by kernel_rfl)) rfl ?_
          exact ⟨by first | rfl | simp, ((tBl HB.out hX.out).setCell (p := ⟨w.heap.size + 1, 0, none⟩) (Nat.le_succ _) _).setCell (p := ⟨w.heap.size + 1, 1, none⟩) (Nat.le_succ _) _⟩
        · have d7 : (x2 == 0) = false := by simp [c7]
          by_cases c8 : y2 = 0
          · have d8 : (y2 == 0) = true := by simp [c8]
            have hh := HR.out
            rw [if_pos (.inr c8)] at hh
            obtain ⟨rfl, rfl⟩ := Prod.mk.inj hh
            clear hh HR
            replace c7 := AsZ.mk c7
            replace c8 := AsZ.mk c8
            go_wp2
            refine bodyPost_ret (results_cell_row rfl _ _ (w.heap.size + 1) 53 #[.int .i64 0, .int .i64 0] (0, 0) _ rfl (blk_set (blk_set (bBl KR.out hX.out) 0 (.int .i64 0)) 1 (.int .i64 0)) Tryd.underlying53 rfl (by kernel_rfl)) rfl ?_
            exact ⟨by first | rfl | simp, ((tBl HB.out hX.out).setCell (p := ⟨w.heap.size + 1, 0, none⟩) (Nat.le_succ _) _).setCell (p := ⟨w.heap.size + 1, 1, none⟩) (Nat.le_succ _) _⟩
          · have d8 : (y2 == 0) = false := by simp [c8]
            have hh := HR.out
            rw [if_neg (fun h => h.elim c7 c8)] at hh
            obtain ⟨rfl, rfl⟩ := Prod.mk.inj hh
            clear hh HR
            replace c7 := AsZ.mk c7
            replace c8 := AsZ.mk c8
            go_wp2
            refine bodyPost_ret (results_cell_row rfl _ _ (w.heap.size + 1) 53 #[.int .i64 x1, .int .i64 y2] (0, 0) _ rfl (blk_set (blk_set (bBl KR.out hX.out) 0 (.int .i64 x1)) 1 (.int .i64 y2)) Tryd.underlying53 rfl (by kernel_rfl)) rfl ?_
            exact ⟨by first | rfl | simp, ((tBl HB.out hX.out).setCell (p := ⟨w.heap.size + 1, 0, none⟩) (Nat.le_succ _) _).setCell (p := ⟨w.heap.size + 1, 1, none⟩) (Nat.le_succ _) _⟩
    · obtain ⟨g7, Y, e_, eY, hG, hB, hge7, hold⟩ := alloc_abs hX.out (.cells #[.int .i64 0, .int .i64 0] 53 (0, 0))
      go_simp
      (try simp only [e_, eY])
      (try have N8 := AsZ.mk (hold _ _ G8.out).2)
      (try replace G8 := AsZ.mk (hold _ _ G8.out).1)
      replace hX := AsZ.mk hB
      have G7 := AsZ.mk hG
      replace hge7 := AsZ.mk hge7
      clear hold hG hB e_ eY
      refine hK.out _ _ ?_ (fun hHeld => ?_)
      · exact hX.out
      clear hK K
      try simp only [Act.put, List.setIfInBounds_toArray, List.set_cons_zero, List.set_cons_succ]
      refine wpAnyH_ready (rs := [4]) (by kernel_rfl) (by simp) ?_
      refine AllReadyH.cons (o := { dst := some 19, op := Go.Op.call { callee := Go.Callee.value (Go.Operand.func 52), args := #[Go.Operand.tmp 16, Go.Operand.tmp 17, Go.Operand.tmp 18], argTypes := #[3, 3, 3] }, type := 53, pos := "law.go:24", after := #[{ on := 1, ground := Go.Ground.data }, { on := 2, ground := Go.Ground.data }, { on := 3, ground := Go.Ground.data }], guard := none }) rfl (fun K hK => ?_) AllReadyH.nil
      refine goes_ (N := some 19) («as» := #[.tmp 16, .tmp 17, .tmp 18]) Tryd.func52 (by kernel_rfl) rfl #[.int .i64 a0, .int .i64 n, .int .i64 s] (by kernel_rfl) rfl rfl (by kernel_rfl) ?_
      with_reducible refine (CA.out _).mono ?_
      rintro e X ⟨rfl, hb⟩
      refine ⟨_, rfl, ?_⟩
      (try replace G7 := AsZ.mk (bBl G7.out hb))
      (try replace G8 := AsZ.mk (bBl G8.out hb))
      replace hX := AsZ.mk (tBl hX.out hb)
      clear hb
      refine hK.out _ _ ?_ (fun hHeld => ?_)
      · exact hX.out
      clear hK K
      try simp only [Act.put, List.setIfInBounds_toArray, List.set_cons_zero, List.set_cons_succ]
      refine wpAnyH_ready (rs := [10]) (by kernel_rfl) (by simp) ?_
      refine AllReadyH.cons (o := { dst := some 25, op := Go.Op.call { callee := Go.Callee.value (Go.Operand.func 52), args := #[Go.Operand.tmp 22, Go.Operand.tmp 23, Go.Operand.tmp 24], argTypes := #[3, 3, 3] }, type := 53, pos := "law.go:24", after := #[{ on := 7, ground := Go.Ground.data }, { on := 8, ground := Go.Ground.data }, { on := 9, ground := Go.Ground.data }, { on := 4, ground := Go.Ground.chain }], guard := none }) rfl (fun K hK => ?_) AllReadyH.nil
      refine goes_ (N := some 25) («as» := #[.tmp 22, .tmp 23, .tmp 24]) Tryd.func52 (by kernel_rfl) rfl #[.int .i64 b1, .int .i64 n, .int .i64 s] (by kernel_rfl) rfl rfl (by kernel_rfl) ?_
      with_reducible refine (CB.out _).mono ?_
      rintro e X ⟨rfl, hb⟩
      refine ⟨_, rfl, ?_⟩
      (try replace G7 := AsZ.mk (bBl G7.out hb))
      (try replace G8 := AsZ.mk (bBl G8.out hb))
      replace hX := AsZ.mk (tBl hX.out hb)
      clear hb
      refine hK.out _ _ ?_ (fun hHeld => ?_)
      · exact hX.out
      clear hK K
      try simp only [Act.put, List.setIfInBounds_toArray, List.set_cons_zero, List.set_cons_succ]
      refine wpAnyH_ready (rs := [13]) (by kernel_rfl) (by simp) ?_
      refine AllReadyH.cons (o := { dst := none, op := Go.Op.store 53 (Go.Operand.tmp 7) (Go.Operand.tmp 19), type := 0, pos := "law.go:24", after := #[{ on := 11, ground := Go.Ground.data }, { on := 4, ground := Go.Ground.data }, { on := 10, ground := Go.Ground.chain }, { on := 0, ground := Go.Ground.phase }, { on := 1, ground := Go.Ground.phase }, { on := 2, ground := Go.Ground.phase }, { on := 3, ground := Go.Ground.phase }, { on := 4, ground := Go.Ground.phase }, { on := 5, ground := Go.Ground.textOnly Go.Departure.lateStores }, { on := 6, ground := Go.Ground.textOnly Go.Departure.lateStores }, { on := 7, ground := Go.Ground.textOnly Go.Departure.lateStores }, { on := 8, ground := Go.Ground.textOnly Go.Departure.lateStores }, { on := 9, ground := Go.Ground.textOnly Go.Departure.lateStores }, { on := 10, ground := Go.Ground.textOnly Go.Departure.lateStoresUnsure }, { on := 11, ground := Go.Ground.phase }, { on := 12, ground := Go.Ground.phase }], guard := none }) rfl (fun K hK => ?_) AllReadyH.nil
      (first | have N78 := AsZ.mk N7.out | have N78 := AsZ.mk N8.out.symm)
      have N87 := AsZ.mk N78.out.symm
      have hq0 := (bCe G7.out 0).trans rfl
      have hq1 := (bCe G7.out 1).trans rfl
      have hf0 := bFz G7.out 0
      have hf1 := bFz G7.out 1
      simp only [List.getElem?_toArray, List.getElem?_cons_zero, List.getElem?_cons_succ] at hq0 hq1
      go_simp
      replace G8 := AsZ.mk (bFr (p := ⟨g7, 1, none⟩) (bFr (p := ⟨g7, 0, none⟩) G8.out N87.out (.int .i64 x1)) N87.out (.int .i64 x2))
      replace G7 := AsZ.mk (blk_set (blk_set G7.out 0 (.int .i64 x1)) 1 (.int .i64 x2))
      replace hX := AsZ.mk ((hX.out.setCell (p := ⟨g7, 0, none⟩) hge7.out (.int .i64 x1)).setCell (p := ⟨g7, 1, none⟩) hge7.out (.int .i64 x2))
      clear hq0 hq1 hf0 hf1
      refine hK.out _ _ ?_ (fun hHeld => ?_)
      · exact hX.out
      clear hK K
      try simp only [Act.put, List.setIfInBounds_toArray, List.set_cons_zero, List.set_cons_succ]
      refine wpAnyH_ready (rs := [14]) (by kernel_rfl) (by simp) ?_
      refine AllReadyH.cons (o := { dst := none, op := Go.Op.store 53 (Go.Operand.tmp 8) (Go.Operand.tmp 25), type := 0, pos := "law.go:24", after := #[{ on := 12, ground := Go.Ground.data }, { on := 10, ground := Go.Ground.data }, { on := 13, ground := Go.Ground.chain }, { on := 0, ground := Go.Ground.phase }, { on := 1, ground := Go.Ground.phase }, { on := 2, ground := Go.Ground.phase }, { on := 3, ground := Go.Ground.phase }, { on := 4, ground := Go.Ground.phase }, { on := 5, ground := Go.Ground.phase }, { on := 6, ground := Go.Ground.phase }, { on := 7, ground := Go.Ground.phase }, { on := 8, ground := Go.Ground.phase }, { on := 9, ground := Go.Ground.phase }, { on := 10, ground := Go.Ground.phase }, { on := 11, ground := Go.Ground.phase }, { on := 12, ground := Go.Ground.phase }, { on := 13, ground := Go.Ground.phase }], guard := none }) rfl (fun K hK => ?_) AllReadyH.nil
      have hq0 := (bCe G8.out 0).trans rfl
      have hq1 := (bCe G8.out 1).trans rfl
      have hf0 := bFz G8.out 0
      have hf1 := bFz G8.out 1
      simp only [List.getElem?_toArray, List.getElem?_cons_zero, List.getElem?_cons_succ] at hq0 hq1
      go_simp
      replace G7 := AsZ.mk (bFr (p := ⟨g8, 1, none⟩) (bFr (p := ⟨g8, 0, none⟩) G7.out N78.out (.int .i64 y1)) N78.out (.int .i64 y2))
      replace G8 := AsZ.mk (blk_set (blk_set G8.out 0 (.int .i64 y1)) 1 (.int .i64 y2))
      replace hX := AsZ.mk ((hX.out.setCell (p := ⟨g8, 0, none⟩) hge8.out (.int .i64 y1)).setCell (p := ⟨g8, 1, none⟩) hge8.out (.int .i64 y2))
      clear hq0 hq1 hf0 hf1
      refine hK.out _ _ ?_ (fun hHeld => ?_)
      · exact hX.out
      clear hK K
      try simp only [Act.put, List.setIfInBounds_toArray, List.set_cons_zero, List.set_cons_succ]
      refine wpAnyH_done (by kernel_rfl) ?_ _
      try simp only [Act.put, List.setIfInBounds_toArray, List.set_cons_zero, List.set_cons_succ, List.getElem_toArray, List.getElem_cons_zero, List.getElem_cons_succ]
      refine NoPanic.normal ?_
      (try dsimp only [Exit.then])
      refine hKz.out _ _ ?_
      clear hHeld
      generalize World.setCell _ _ _ = Z at G7 G8 hX ⊢
      have h70 : Z.cell? ⟨g7, 0, none⟩ = some (.int .i64 x1) := (bCe G7.out 0).trans rfl
      have h71 : Z.cell? ⟨g7, 1, none⟩ = some (.int .i64 x2) := (bCe G7.out 1).trans rfl
      have h81 : Z.cell? ⟨g8, 1, none⟩ = some (.int .i64 y2) := (bCe G8.out 1).trans rfl
      have hr0 : Z.cell? ⟨w.heap.size + 1, 0, none⟩ = some (.int .i64 0) := (bCe (bBl KR.out hX.out) 0).trans rfl
      have hr1 : Z.cell? ⟨w.heap.size + 1, 1, none⟩ = some (.int .i64 0) := (bCe (bBl KR.out hX.out) 1).trans rfl
      have fr0 := bFz (bBl KR.out hX.out) 0
      have fr1 := bFz (bBl KR.out hX.out) 1
      clear G7 G8 hS0 hS1
      by_cases c7 : x2 = 0
      · have d7 : (x2 == 0) = true := by simp [c7]
        have hh := HR.out
        rw [if_pos (.inl c7)] at hh
        obtain ⟨rfl, rfl⟩ := Prod.mk.inj hh
        clear hh HR
        replace c7 := AsZ.mk c7
        go_wp2
        refine bodyPost_ret (results_cell_row rfl _ _ (w.heap.size + 1) 53 #[.int .i64 0, .int .i64 0] (0, 0) _ rfl (blk_set (blk_set (bBl KR.out hX.out) 0 (.int .i64 0)) 1 (.int .i64 0)) Tryd.underlying53 rfl (by kernel_rfl)) rfl ?_
        exact ⟨by first | rfl | simp, ((tBl HB.out hX.out).setCell (p := ⟨w.heap.size + 1, 0, none⟩) (Nat.le_succ _) _).setCell (p := ⟨w.heap.size + 1, 1, none⟩) (Nat.le_succ _) _⟩
      · have d7 : (x2 == 0) = false := by simp [c7]
        by_cases c8 : y2 = 0
        · have d8 : (y2 == 0) = true := by simp [c8]
          have hh := HR.out
          rw [if_pos (.inr c8)] at hh
          obtain ⟨rfl, rfl⟩ := Prod.mk.inj hh
          clear hh HR
          replace c7 := AsZ.mk c7
          replace c8 := AsZ.mk c8
          go_wp2
          refine bodyPost_ret (results_cell_row rfl _ _ (w.heap.size + 1) 53 #[.int .i64 0, .int .i64 0] (0, 0) _ rfl (blk_set (blk_set (bBl KR.out hX.out) 0 (.int .i64 0)) 1 (.int .i64 0)) Tryd.underlying53 rfl (by kernel_rfl)) rfl ?_
          exact ⟨by first | rfl | simp, ((tBl HB.out hX.out).setCell (p := ⟨w.heap.size + 1, 0, none⟩) (Nat.le_succ _) _).setCell (p := ⟨w.heap.size + 1, 1, none⟩) (Nat.le_succ _) _⟩
        · have d8 : (y2 == 0) = false := by simp [c8]
          have hh := HR.out
          rw [if_neg (fun h => h.elim c7 c8)] at hh
          obtain ⟨rfl, rfl⟩ := Prod.mk.inj hh
          clear hh HR
          replace c7 := AsZ.mk c7
          replace c8 := AsZ.mk c8
          go_wp2
          refine bodyPost_ret (results_cell_row rfl _ _ (w.heap.size + 1) 53 #[.int .i64 x1, .int .i64 y2] (0, 0) _ rfl (blk_set (blk_set (bBl KR.out hX.out) 0 (.int .i64 x1)) 1 (.int .i64 y2)) Tryd.underlying53 rfl (by kernel_rfl)) rfl ?_
          exact ⟨by first | rfl | simp, ((tBl HB.out hX.out).setCell (p := ⟨w.heap.size + 1, 0, none⟩) (Nat.le_succ _) _).setCell (p := ⟨w.heap.size + 1, 1, none⟩) (Nat.le_succ _) _⟩
set_option maxRecDepth 100000 in
set_option maxHeartbeats 4000000 in
theorem bytes_none (a0 a1 : Int) (c : Bool) (n s : Int) (hge : a0 ≥ a1) (w : World) :
    Calls Tryd.prog 35 #[.agg #[.int .i64 a0, .int .i64 a1, .bool c], .int .i64 n, .int .i64 s] w fun e w' => e = .returned (.agg #[.int .i64 0, .int .i64 0]) ∧ Below w.heap.size w w' := by
  have d0 : decide (a0 ≥ a1) = true := decide_eq_true hge
  have d0' : decide (a1 ≤ a0) = true := decide_eq_true hge
  clear hge
  go_enter Tryd.func35, Tryd.ntmps35
  have KR := blk_new (w.alloc (.cells #[.int .i64 a0, .int .i64 a1, .bool c] 50 (0, 0))) (.cells #[.int .i64 0, .int .i64 0] 53 (0, 0))
  rw [alloc_size] at KR
  have HB := aBl (aBl (Below.refl w.heap.size w) (.cells #[.int .i64 a0, .int .i64 a1, .bool c] 50 (0, 0))) (.cells #[.int .i64 0, .int .i64 0] 53 (0, 0))
  replace KR := AsZ.mk KR
  replace HB := AsZ.mk HB
  go_wp2
  refine bodyPost_ret (results_cell_row rfl _ _ (w.heap.size + 1) 53 #[.int .i64 0, .int .i64 0] (0, 0) _ rfl KR.out Tryd.underlying53 rfl (by kernel_rfl)) rfl ?_
  exact ⟨by first | rfl | simp, HB.out⟩
end Go.Proofs.YtcnlmpjoghogbaaDoor.Ag
namespace Go.Proofs.YtcnlmpjoghogbaaDoor.PAll
open Go.RowKit Go.Proofs.YtcnlmpjoghogbaaDoor.Xw Go.Proofs.YtcnlmpjoghogbaaDoorW.PrintWords Go.Proofs.YtcnlmpjoghogbaaDoorW.PrintLast Go.Proofs.YtcnlmpjoghogbaaDoorW.PrintMore
attribute [local go_sem] max2_int min2_int max_two min_two max_three min_three max_four min_four   -- for this text's walks alone
set_option linter.unusedVariables false
set_option linter.unusedSimpArgs false
theorem eqA53 (d : Nat) (w : World) (x0 y0 : Int) (x1 y1 : Int) :
    (Op.equalIn (d + 2) 53 (.agg #[.int .i64 x0, .int .i64 x1]) (.agg #[.int .i64 y0, .int .i64 y1])).run Tryd.prog w = .ok (x0 == y0 && (x1 == y1)) w := by
  refine eqA_of Tryd.underlying53 (by kernel_rfl) ?_
  refine eqf_cons (by rfl) (by go_simp; rfl) (by go_simp; rfl) (by go_simp) ?_
  exact eqf_last (by rfl) (by go_simp; rfl) (by go_simp; rfl) (by go_simp)
end Go.Proofs.YtcnlmpjoghogbaaDoor.PAll
namespace Go.Proofs.YtcnlmpjoghogbaaDoor.PAll
open Go.Proofs.YtcnlmpjoghogbaaDoor.Ag (row_load row_store ag_gate ag_gate_st row_store2)
open Go.RowKit Go.Proofs.YtcnlmpjoghogbaaDoor.Xw Go.Proofs.YtcnlmpjoghogbaaDoorW.PrintWords Go.Proofs.YtcnlmpjoghogbaaDoorW.PrintLast Go.Proofs.YtcnlmpjoghogbaaDoorW.PrintMore
attribute [local go_sem] max2_int min2_int max_two min_two max_three min_three max_four min_four   -- for this text's walks alone
attribute [local go_sem ↓] Ag.ldMap_eq
set_option linter.unusedVariables false
set_option linter.unusedSimpArgs false
attribute [local go_sem high] eqA53
def spencelaw28_bytes.f (k : Nat) (a0_0 a0_1 : Int) (_a0_2 : Bool) (a1 a2 : Int) : Option (Int × Int) := if a0_0 ≥ a0_1 then some (0, 0) else (spenceref04_Bounds.f k a0_0 a1 a2).bind fun a => (spenceref04_Bounds.f k (wrap64 (a0_1 - 1)) a1 a2).bind fun b => some (if a.2 = 0 ∨ b.2 = 0 then (0, 0) else (a.1, b.2))
theorem spencelaw28_bytes.mono : ∀ a0 a1 a2 a3 a4 k, LeO (spencelaw28_bytes.f k a0 a1 a2 a3 a4) (spencelaw28_bytes.f (k + 1) a0 a1 a2 a3 a4) := by
  intro a0 a1 a2 a3 a4 k r h
  unfold spencelaw28_bytes.f at h ⊢
  by_cases c : a0 ≥ a1
  · rw [if_pos c] at h ⊢; exact h
  · rw [if_neg c] at h ⊢
    obtain ⟨a, ha, h⟩ := Option.bind_eq_some_iff.1 h
    obtain ⟨b, hb, h⟩ := Option.bind_eq_some_iff.1 h
    rw [spenceref04_Bounds.mono _ _ _ k a ha, Option.bind_some, spenceref04_Bounds.mono _ _ _ k b hb, Option.bind_some]
    exact h
theorem spencelaw28_bytes.calls (k : Nat) (a0_0 a0_1 : Int) (a0_2 : Bool) (a1 a2 : Int) (r1 r2 : Int) (w : World) (h : spencelaw28_bytes.f k a0_0 a0_1 a0_2 a1 a2 = some (r1, r2)) :
    Calls Tryd.prog 35 #[.agg #[.int .i64 a0_0, .int .i64 a0_1, .bool a0_2], .int .i64 a1, .int .i64 a2] w fun e w' => e = .returned (.agg #[.int .i64 r1, .int .i64 r2]) ∧ Below w.heap.size w w' := by
  unfold spencelaw28_bytes.f at h
  by_cases c : a0_0 ≥ a0_1
  · rw [if_pos c] at h
    obtain ⟨rfl, rfl⟩ := Prod.mk.inj (Option.some.inj h)
    exact Ag.bytes_none a0_0 a0_1 a0_2 a1 a2 c w
  · rw [if_neg c] at h
    obtain ⟨⟨x1, x2⟩, ha, h⟩ := Option.bind_eq_some_iff.1 h
    obtain ⟨⟨y1, y2⟩, hb, h⟩ := Option.bind_eq_some_iff.1 h
    exact Ag.bytes_calls a0_0 a0_1 a0_2 a1 a2 _ x1 x2 y1 y2 rfl c r1 r2 (Option.some.inj h) (fun X => spenceref04_Bounds.calls k a0_0 a1 a2 x1 x2 X ha) (fun X => spenceref04_Bounds.calls k _ a1 a2 y1 y2 X hb) w
def spencelaw28_PlanBytes.j0 : Nat → Int → Int → Bool → Int → Int → Bool → Option (Bool)
  | 0, _, _, _, _, _, _ => none
  | k + 1, x1, x2, x19, x371000, x371001, x371002 => if x19 = true then (some true) else ((plan_Bytes.f x371000 x371001 x371002 x1 x2).bind fun bt372 => ((spencelaw28_bytes.f k x371000 x371001 x371002 x1 x2).bind fun bt376 => (if (bt372.1 == bt376.1 && (bt372.2.1 == bt376.2)) = true then (some (bt372.2.2 == (decide (bt376.2 > 0)))) else (some false))))
def spencelaw28_PlanBytes.f (k : Nat) (a0_0 : Int) (a0_1 : Int) (a0_2 : Bool) (a1 : Int) (a2 : Int) : Option (Bool) := (spencelaw28_awake.f k).bind fun t371 => (if t371 = true then (if a0_1 < (-1099511627776) then (spencelaw28_PlanBytes.j0 k a1 a2 true a0_0 a0_1 a0_2) else (spencelaw28_PlanBytes.j0 k a1 a2 (decide (a0_1 > 1099511627776)) a0_0 a0_1 a0_2)) else (some false))
theorem spencelaw28_PlanBytes.mono_l : ∀ k, (∀ y0 y1 y2 y3 y4 y5, LeO (spencelaw28_PlanBytes.j0 k y0 y1 y2 y3 y4 y5) (spencelaw28_PlanBytes.j0 (k + 1) y0 y1 y2 y3 y4 y5))
  | 0 => fun _ _ _ _ _ _ r h => by simp [spencelaw28_PlanBytes.j0] at h
  | k + 1 => by
    have ih0 := spencelaw28_PlanBytes.mono_l k
    · intro y0 y1 y2 y3 y4 y5
      unfold spencelaw28_PlanBytes.j0
      repeat' first
      | (with_reducible exact ih0 _ _ _ _ _ _)
      | (with_reducible exact spencelaw28_awake.mono _)
      | (with_reducible exact spencelaw28_bytes.mono _ _ _ _ _ _)
      | (with_reducible exact LeO.refl _)
      | (with_reducible exact LeO.none _)
      | (with_reducible refine LeO.ite ?_ ?_)
      | (with_reducible refine LeO.bind ?_ (fun _ => ?_))
      | exact ih0 _ _ _ _ _ _
      | exact spencelaw28_awake.mono _
      | exact spencelaw28_bytes.mono _ _ _ _ _ _
      | exact LeO.none _
      | refine LeO.ite ?_ ?_
      | refine LeO.bind ?_ (fun _ => ?_)
theorem spencelaw28_PlanBytes.mono : ∀ a0 a1 a2 a3 a4 k, LeO (spencelaw28_PlanBytes.f k a0 a1 a2 a3 a4) (spencelaw28_PlanBytes.f (k + 1) a0 a1 a2 a3 a4) := by
  intro a0 a1 a2 a3 a4 k
  have ih0 := spencelaw28_PlanBytes.mono_l k
  unfold spencelaw28_PlanBytes.f
  repeat' first
      | (with_reducible exact ih0 _ _ _ _ _ _)
      | (with_reducible exact spencelaw28_awake.mono _)
      | (with_reducible exact spencelaw28_bytes.mono _ _ _ _ _ _)
      | (with_reducible exact LeO.refl _)
      | (with_reducible exact LeO.none _)
      | (with_reducible refine LeO.ite ?_ ?_)
      | (with_reducible refine LeO.bind ?_ (fun _ => ?_))
      | exact ih0 _ _ _ _ _ _
      | exact spencelaw28_awake.mono _
      | exact spencelaw28_bytes.mono _ _ _ _ _ _
      | exact LeO.none _
      | refine LeO.ite ?_ ?_
      | refine LeO.bind ?_ (fun _ => ?_)
def plan_Ready.f (l0_0 : List Int) (_l0_1 : List S50) (_l0_2 : List S50) (a1_0 : Nat → Int) : Option Bool := some (!l0_0.any fun x => !Ag.hasF a1_0 x)
theorem plan_Ready.calls (A0_0 : Option Addr) (c0_0 : Nat) (l0_0 : List Int) (A0_1 : Option Addr) (c0_1 : Nat) (l0_1 : List S50) (A0_2 : Option Addr) (c0_2 : Nat) (l0_2 : List S50) (a1_0 : Nat → Int) (r : Bool) (w : World) (hr0_0 : Kd.C (Kd.int .i64) w A0_0 l0_0.length l0_0) (_hc0_0 : l0_0.length ≤ c0_0) (_hr0_1 : Kd.C k50 w A0_1 l0_1.length l0_1) (_hc0_1 : l0_1.length ≤ c0_1) (_hr0_2 : Kd.C k50 w A0_2 l0_2.length l0_2) (_hc0_2 : l0_2.length ≤ c0_2) (h : plan_Ready.f l0_0 l0_1 l0_2 a1_0 = some r) :
    Calls Tryd.prog 37 #[.agg #[.slice A0_0 l0_0.length c0_0, .slice A0_1 l0_1.length c0_1, .slice A0_2 l0_2.length c0_2], .agg (Ag.agC .u64 65 a1_0)] w fun e w' => e = .returned (.bool r) ∧ Below w.heap.size w w' := by
  obtain rfl := Option.some.inj h
  exact Ag.ready_calls A0_0 c0_0 l0_0 A0_1 A0_2 _ _ _ _ a1_0 w hr0_0
end Go.Proofs.YtcnlmpjoghogbaaDoor.PAll
namespace Go.Proofs.YtcnlmpjoghogbaaDoor.Ag
open Go Go.RowKit Go.Shelf Go.Proofs Go.Proofs.YtcnlmpjoghogbaaDoor.Xw Go.Proofs.YtcnlmpjoghogbaaDoor.PAll Go.Proofs.YtcnlmpjoghogbaaDoorW.PrintWords Go.Proofs.YtcnlmpjoghogbaaDoorW.PrintLast Go.Proofs.YtcnlmpjoghogbaaDoorW.PrintMore
attribute [local go_sem] Oper.semAt_some
theorem price_enters (args : Array Value) (w : World) : (callFunc 60 args).run Tryd.prog w = .ok (.enter 60 args) w := enters_of Tryd.func60 (by kernel_rfl) rfl args w
set_option maxRecDepth 100000 in
set_option maxHeartbeats 4000000 in
theorem price_calls (r : S50) (n s x y p : Int) (b : Bool) (Bn Bs : Nat) (w : World) (hn : w.heap[Bn]? = some (.cells #[.int .i64 n] 3 (0, 0))) (hs : w.heap[Bs]? = some (.cells #[.int .i64 s] 3 (0, 0)))
    (hB : ∀ X, Calls Tryd.prog 34 #[.agg #[.int .i64 r.f0, .int .i64 r.f1, .bool r.f2], .int .i64 n, .int .i64 s] X fun e X' => e = .returned (.tuple #[.agg #[.int .i64 x, .int .i64 y], .bool b]) ∧ Below X.heap.size X X')
    (hL : ∀ X, Calls Tryd.prog 61 #[.agg #[.int .i64 x, .int .i64 y]] X fun e X' => e = .returned (.int .i64 p) ∧ Below X.heap.size X X') :
    Calls Tryd.prog 60 #[.agg #[.int .i64 r.f0, .int .i64 r.f1, .bool r.f2], .pointer (some ⟨Bn, 0, none⟩), .pointer (some ⟨Bs, 0, none⟩)] w fun e w' => e = .returned (.int .i64 p) ∧ Below w.heap.size w w' := by
  have CB := AsZ.mk hB
  have CL := AsZ.mk hL
  have hB0 := aBl (Below.refl w.heap.size w) (.cells #[.int .i64 r.f0, .int .i64 r.f1, .bool r.f2] 50 (0, 0))
  have hcn := (bCe (bBl hn hB0) 0).trans rfl
  have hcs := (bCe (bBl hs hB0) 0).trans rfl
  simp only [List.getElem?_toArray, List.getElem?_cons_zero] at hcn hcs
  clear hB hL hn hs
  replace hB0 := AsZ.mk hB0
  go_enter Tryd.func60, Tryd.ntmps60
  go_wp2_with (first | (go_at_call 34; refine (CB.out _).mono ?_; rintro e w' ⟨rfl, hb⟩; replace hb := AsZ.mk (tBl hB0.out hb)) | (go_at_call 61; refine (CL.out _).mono ?_; rintro e w'' ⟨rfl, hb2⟩))
  go_ret
  exact ⟨rfl, tBl (aBl hb.out _) hb2⟩
def costF (price : S50 → Int) (l : List S50) : Int := l.foldl (fun a r => wrap64 (a + price r)) 0
theorem costF_snoc (price : S50 → Int) (l : List S50) (r : S50) : costF price (l ++ [r]) = wrap64 (costF price l + price r) := by simp [costF]
set_option maxRecDepth 100000 in
set_option maxHeartbeats 4000000 in
theorem cost_calls (A0 A1 A2 : Option Addr) (n0 c0 n1 c1 c2 : Nat) (l : List S50) (price : S50 → Int) (n s : Int) (w : World) (hC : Kd.C k50 w A2 l.length l)
    (hP : ∀ r ∈ l, ∀ (Bn Bs : Nat) (X : World), X.heap[Bn]? = some (.cells #[.int .i64 n] 3 (0, 0)) → X.heap[Bs]? = some (.cells #[.int .i64 s] 3 (0, 0)) → Calls Tryd.prog 60 #[.agg #[.int .i64 r.f0, .int .i64 r.f1, .bool r.f2], .pointer (some ⟨Bn, 0, none⟩), .pointer (some ⟨Bs, 0, none⟩)] X fun e X' => e = .returned (.int .i64 (price r)) ∧ Below X.heap.size X X') :
    Calls Tryd.prog 41 #[.agg #[.slice A0 n0 c0, .slice A1 n1 c1, .slice A2 l.length c2], .int .i64 n, .int .i64 s] w fun e w' => e = .returned (.int .i64 (costF price l)) ∧ Below w.heap.size w w' := by
  have hB := aBl (aBl (aBl (Below.refl w.heap.size w) (.cells #[.slice A0 n0 c0, .slice A1 n1 c1, .slice A2 l.length c2] 60 (0, 0))) (.cells #[.int .i64 n] 3 (0, 0))) (.cells #[.int .i64 s] 3 (0, 0))
  have KN := bAl (blk_new (w.alloc (.cells #[.slice A0 n0 c0, .slice A1 n1 c1, .slice A2 l.length c2] 60 (0, 0))) (.cells #[.int .i64 n] 3 (0, 0))) (.cells #[.int .i64 s] 3 (0, 0))
  have KS := blk_new ((w.alloc (.cells #[.slice A0 n0 c0, .slice A1 n1 c1, .slice A2 l.length c2] 60 (0, 0))).alloc (.cells #[.int .i64 n] 3 (0, 0))) (.cells #[.int .i64 s] 3 (0, 0))
  rw [alloc_size] at KN
  rw [alloc_size, alloc_size] at KS
  have hnb := hC.2.1
  have HC := AsZ.mk (Kd.C_below hC hB)
  replace hP := AsZ.mk hP
  replace hB := AsZ.mk hB
  replace KN := AsZ.mk KN
  replace KS := AsZ.mk KS
  clear hC
  obtain ⟨m, hm⟩ : ∃ m, l.length = m := ⟨_, rfl⟩
  rw [hm] at hnb hB HC KN KS ⊢
  replace hm := AsZ.mk hm
  go_enter Tryd.func41, Tryd.ntmps41
  go_wp2
  obtain ⟨wA, hwA⟩ : ∃ x, ((w.alloc (.cells #[.slice A0 n0 c0, .slice A1 n1 c1, .slice A2 m c2] 60 (0, 0))).alloc (.cells #[.int .i64 n] 3 (0, 0))).alloc (.cells #[.int .i64 s] 3 (0, 0)) = x := ⟨_, rfl⟩
  rw [hwA] at HC KN KS hB ⊢
  clear hwA
  go_loopg [7, 10, 15] m (fun gg s7 _ s15 wr => ∃ kk : Nat, kk ≤ m ∧ m - kk ≤ gg ∧ s15 = .int .i64 kk ∧ s7 = .int .i64 (costF price (l.take kk)) ∧ AsZ (Below wA.heap.size wA wr))
  case atStart => exact ⟨0, Nat.zero_le _, by omega, rfl, rfl, ⟨Below.refl _ wA⟩⟩
  case round =>
    obtain ⟨kk, hkk, hg, rfl, rfl, BW⟩ := hrel
    by_cases hlt : kk < m
    · have hltz : (kk : Int) < (m : Int) := by omega
      obtain ⟨ad, eA, hx0, hx1, hx2⟩ := at_T50 HC.out (kk : Int) (by omega) (by have := hm.out; omega)
      cases eA
      replace hx0 := (BW.out.cell (World.block_lt_of_cell? wA _ hx0)).trans hx0
      replace hx1 := (BW.out.cell (World.block_lt_of_cell? wA _ hx1)).trans hx1
      replace hx2 := (BW.out.cell (World.block_lt_of_cell? wA _ hx2)).trans hx2
      simp only [Int.toNat_natCast] at hx0 hx1 hx2
      obtain ⟨r, hr⟩ : ∃ r, rd_T50 l (kk : Int) = r := ⟨_, rfl⟩
      rw [hr] at hx0 hx1 hx2
      have hlk : l[kk]? = some r := by
        rw [← hr]
        unfold rd_T50
        simp only [Int.toNat_natCast, List.getD_eq_getElem?_getD]
        rw [List.getElem?_eq_getElem (by have := hm.out; omega)]
        rfl
      have hnx : costF price (l.take (kk + 1)) = wrap64 (costF price (l.take kk) + price r) := by
        rw [List.take_add_one, hlk]
        exact costF_snoc price _ r
      clear hr
      obtain ⟨sm, hsm⟩ : ∃ sm, costF price (l.take kk) = sm := ⟨_, rfl⟩
      obtain ⟨s2, hs2⟩ : ∃ s2, wrap64 (sm + price r) = s2 := ⟨_, rfl⟩
      have hs3 : IntKind.i64.wrap (sm + price r) = s2 := (i64_w _).trans hs2
      rw [hsm, hs2] at hnx
      rw [hsm]
      clear hsm hs2
      replace hnx := AsZ.mk hnx
      have hb1 := aBl BW.out (.cells #[.int .i64 r.f0, .int .i64 r.f1, .bool r.f2] 50 (0, 0))
      have hcall := hP.out r (List.mem_of_getElem? hlk) (w.heap.size + 1) (w.heap.size + 1 + 1) _ (bBl KN.out hb1) (bBl KS.out hb1)
      have eg := price_enters
      replace hb1 := AsZ.mk hb1
      replace hlk := AsZ.mk hlk
      go_wp2_with (go_at_fn 60; refine hcall.mono ?_; rintro e w' ⟨rfl, hb'⟩)
      go_roundg (m - (kk + 1))
      case measure => omega
      case rel => exact ⟨kk + 1, by omega, by omega, by go_num, by rw [hnx.out], ⟨tBl hb1.out hb'⟩⟩
    · have hltz : ¬ (kk : Int) < (m : Int) := by omega
      have : kk = m := by omega
      subst this
      have e : costF price (l.take kk) = costF price l := by rw [List.take_of_length_le (by have := hm.out; omega)]
      rw [e]
      clear e
      go_wp2
      go_ret
      exact ⟨rfl, tBl hB.out BW.out⟩
end Go.Proofs.YtcnlmpjoghogbaaDoor.Ag
namespace Go.Proofs.YtcnlmpjoghogbaaDoor.Ag
open Go Go.RowKit Go.Shelf Go.Proofs Go.Proofs.YtcnlmpjoghogbaaDoor.Xw Go.Proofs.YtcnlmpjoghogbaaDoor.PAll Go.Proofs.YtcnlmpjoghogbaaDoorW.PrintWords Go.Proofs.YtcnlmpjoghogbaaDoorW.PrintLast Go.Proofs.YtcnlmpjoghogbaaDoorW.PrintMore
attribute [local go_sem] Oper.semAt_some
def lenF (x y : Int) : Int := if 0 ≤ x ∧ x < y ∧ y ≤ 4611686018427387903 then wrap64 (y - x) else 0
theorem spanLen_calls (x y : Int) (w : World) : Calls Tryd.prog 61 #[.agg #[.int .i64 x, .int .i64 y]] w fun e w' => e = .returned (.int .i64 (lenF x y)) ∧ Below w.heap.size w w' := by
  obtain ⟨b, hb⟩ : ∃ b : Bool, decide (0 ≤ x ∧ x < y ∧ y ≤ 4611686018427387903) = b := ⟨_, rfl⟩
  have hr : span_Right.f x y = some b := by
    rw [← hb]
    unfold span_Right.f
    by_cases h1 : x ≥ 0
    · by_cases h2 : x < y
      · rw [if_pos h1, if_pos h2]
        congr 1
        rw [decide_eq_decide]
        exact ⟨fun h => ⟨h1, h2, h⟩, fun h => h.2.2⟩
      · rw [if_pos h1, if_neg h2, decide_eq_false (fun h => h2 h.2.1)]
    · rw [if_neg h1, decide_eq_false (fun h => h1 h.1)]
  have hl : lenF x y = if b = true then wrap64 (y - x) else 0 := by
    unfold lenF
    rw [← hb]
    by_cases h : 0 ≤ x ∧ x < y ∧ y ≤ 4611686018427387903
    · rw [if_pos h, decide_eq_true h, if_pos rfl]
    · rw [if_neg h, decide_eq_false h, if_neg (by simp)]
  have CR := fun X => span_Right.calls x y b X hr
  rw [hl]
  clear hb hr hl
  obtain ⟨z, hz⟩ : ∃ z, wrap64 (y - x) = z := ⟨_, rfl⟩
  have hz2 : IntKind.i64.wrap (y - x) = z := (i64_w _).trans hz
  rw [hz]
  clear hz
  have hB := AsZ.mk (aBl (Below.refl w.heap.size w) (.cells #[.int .i64 x, .int .i64 y] 53 (0, 0)))
  have KB := AsZ.mk (blk_new w (.cells #[.int .i64 x, .int .i64 y] 53 (0, 0)))
  replace CR := AsZ.mk CR
  cases b with
  | true =>
    simp only [if_true]
    go_enter Tryd.func61, Tryd.ntmps61
    go_wp2_with (go_at_call 70; refine (CR.out _).mono ?_; rintro e w' ⟨rfl, hb⟩; have h0 := (bCe (bBl KB.out hb) 0).trans (show _ = some (Value.int .i64 x) from rfl); have h1 := (bCe (bBl KB.out hb) 1).trans (show _ = some (Value.int .i64 y) from rfl); replace hb := AsZ.mk hb)
    go_ret
    exact ⟨rfl, tBl hB.out hb.out⟩
  | false =>
    simp only [Bool.false_eq_true, if_false]
    go_enter Tryd.func61, Tryd.ntmps61
    go_wp2_with (go_at_call 70; refine (CR.out _).mono ?_; rintro e w' ⟨rfl, hb⟩; replace hb := AsZ.mk hb)
    go_ret
    exact ⟨rfl, tBl hB.out hb.out⟩
def priceO (a b : Int) (r : S50) : Option Int := (plan_Bytes.f r.f0 r.f1 r.f2 a b).map fun t => lenF t.1 t.2.1
theorem costP_calls (A0 A1 A2 : Option Addr) (n0 c0 n1 c1 c2 : Nat) (l : List S50) (n s : Int) (w : World) (hC : Kd.C k50 w A2 l.length l) (hall : ∀ r ∈ l, (priceO n s r).isSome = true) :
    Calls Tryd.prog 41 #[.agg #[.slice A0 n0 c0, .slice A1 n1 c1, .slice A2 l.length c2], .int .i64 n, .int .i64 s] w fun e w' => e = .returned (.int .i64 (costF (fun r => (priceO n s r).getD 0) l)) ∧ Below w.heap.size w w' := by
  refine cost_calls A0 A1 A2 n0 c0 n1 c1 c2 l _ n s w hC (fun r hr Bn Bs X h1 h2 => ?_)
  have h3 := hall r hr
  unfold priceO at h3 ⊢
  cases h4 : plan_Bytes.f r.f0 r.f1 r.f2 n s with
  | none => rw [h4] at h3; cases h3
  | some t =>
    obtain ⟨x, y, b⟩ := t
    exact price_calls r n s x y (lenF x y) b Bn Bs X h1 h2 (fun X => plan_Bytes.calls r.f0 r.f1 r.f2 n s x y b X h4) (fun X => spanLen_calls x y X)
end Go.Proofs.YtcnlmpjoghogbaaDoor.Ag
namespace Go.Proofs.YtcnlmpjoghogbaaDoor.Ag
open Go Go.RowKit Go.Shelf Go.Proofs Go.Proofs.YtcnlmpjoghogbaaDoor.Xw Go.Proofs.YtcnlmpjoghogbaaDoor.PAll Go.Proofs.YtcnlmpjoghogbaaDoorW.PrintWords Go.Proofs.YtcnlmpjoghogbaaDoorW.PrintLast Go.Proofs.YtcnlmpjoghogbaaDoorW.PrintMore
attribute [local go_sem] Oper.semAt_some
theorem infoInt_ : (Tryd.prog.info? 3).map (fun i => (i.zero, i.size, i.bytes)) = some (some (.int .i64 0), 1, 8) := by kernel_rfl
theorem cloneI_calls (A : Option Addr) (c : Nat) (l : List Int) (w : World) (hC : Kd.C (Kd.int .i64) w A l.length l) (hb : l.length ≤ 1000000) :
    Calls Tryd.prog 58 #[.slice A l.length c] w fun e w' => ∃ v, e = .returned v ∧ Kd.R (Kd.int .i64) 3 w' w.heap.size (fun _ => True) v l ∧ Below w.heap.size w w' := by
  have q22 : ∀ (w : World) (a : Option Addr) (n c n' c' : Nat), (binOp .eql 22 (.slice a n c) (.slice none n' c')).run Tryd.prog w = .ok (.bool a.isNone) w := fun w a n c n' c' => Lib.run_eql_slice_nil w _ _ a n c n' c' Tryd.underlying22
  have HC := AsZ.mk hC
  clear hC
  cases A with
  | none =>
    have h0 : l = [] := by
      cases l with
      | nil => rfl
      | cons x r => obtain ⟨ad, he, _⟩ := HC.out.2.2 (by simp); cases he
    subst h0
    go_enter Tryd.func58, Tryd.ntmps58
    go_wp2
    go_ret
    exact ⟨_, rfl, Kd.R_nil _ _ _ _ _, by first | exact Below.refl _ _ | exact below_drew (Below.refl _ _)⟩
  | some ad =>
    go_enter Tryd.func58, Tryd.ntmps58
    go_wp2_with (at_builtin; (refine Kd.R_append_rows (Kd.int .i64) (w0 := w) w.heap.size rfl (.tmp 5) (.tmp 6) 22 3 (.int .i64 0) 8 rfl Tryd.underlying22 infoInt_ rfl (by decide) (by decide) (.slice (some ⟨w.heap.size, 0, none⟩) 0 0) [] l (some ad) l.length c (fun _ => True) (fun _ => False) rfl rfl ⟨fun _ _ => trivial, [], World.ownsRow_made w #[] 0 (Nat.le_refl _) (Nat.zero_le _) (by simp), Reps.none _ _⟩ (Kd.C_below HC.out (aBl (Below.refl _ _) _)) (fun x cs h => h) (fun _ h => h.elim) (fun _ _ => trivial) (aBl (Below.refl _ _) _) (by simp) (by simp; omega) ?_; intro v1 w1 hR hb1 _ _; rw [List.nil_append] at hR; replace hR := AsZ.mk hR; replace hb1 := AsZ.mk hb1))
    go_ret
    exact ⟨_, rfl, hR.out, hb1.out⟩
set_option maxRecDepth 100000 in
set_option maxHeartbeats 4000000 in
theorem grow_calls (n : Nat) (hn : n ≤ 1000000) (w : World) : Calls Tryd.prog 69 #[.slice none 0 0, .int .i64 n] w fun e w' => ∃ v, e = .returned v ∧ Kd.R (Kd.int .i64) 3 w' w.heap.size (fun _ => True) v [] ∧ Below w.heap.size w w' := by
  by_cases h0 : 0 < n
  · have d0 : decide ((n : Int) > 0) = true := decide_eq_true (by omega)
    have d1 : decide ((n : Int) < 0) = false := decide_eq_false (by omega)
    go_enter Tryd.func69, Tryd.ntmps69
    go_wp2_with (at_builtin; (refine Kd.R_append_zeros (Kd.int .i64) (w0 := w) w.heap.size rfl (.tmp 20) (.tmp 21) 22 3 3 (.int .i64 0) 8 rfl Tryd.underlying22 Tryd.underlying3 infoInt_ rfl (by decide) (by decide) (.slice none 0 0) [] 0 n (fun _ => True) rfl rfl rfl (fun _ _ => trivial) (Kd.R_nil _ _ _ _ _) (by omega) (Below.refl _ _) (Nat.le_refl _) (by simp only [List.length_nil, Int.toNat_natCast]; omega) ?_; intro v1 w1 hR hb1 _ _; rw [List.nil_append, Int.toNat_natCast] at hR; obtain ⟨g, cap, rfl, _, _, _⟩ := Kd.R_form hR (by simp; omega); have hcap := (Kd.R_reads' hR).2.1; have hT := AsZ.mk (Kd.R_take hR (m := 0) (Nat.zero_le _)); replace hb1 := AsZ.mk hb1; rw [List.length_replicate] at hcap; simp only [List.length_replicate]; clear hR))
    go_ret
    exact ⟨_, rfl, hT.out, hb1.out⟩
  · obtain rfl : n = 0 := by omega
    go_enter Tryd.func69, Tryd.ntmps69
    go_wp2
    go_ret
    exact ⟨_, rfl, Kd.R_nil _ _ _ _ _, Below.refl _ _⟩
set_option maxRecDepth 100000 in
set_option maxHeartbeats 4000000 in
theorem concat_calls (g : Nat) (A B : Option Addr) (c d : Nat) (l m : List Int) (w : World) (hg : w.heap[g]? = some (.cells #[.slice A l.length c, .slice B m.length d] 22 (0, 0)))
    (hl : Kd.C (Kd.int .i64) w A l.length l) (hm : Kd.C (Kd.int .i64) w B m.length m) (hb : l.length + m.length ≤ 1000000) :
    Calls Tryd.prog 59 #[.slice (some ⟨g, 0, none⟩) 2 2] w fun e w' => ∃ v, e = .returned v ∧ Kd.R (Kd.int .i64) 3 w' w.heap.size (fun _ => True) v (l ++ m) ∧ Below w.heap.size w w' := by
  have HG := AsZ.mk hg
  have HL := AsZ.mk hl
  have HM := AsZ.mk hm
  have h0 := (bCe hg 0).trans rfl
  have h1 := (bCe hg 1).trans rfl
  simp only [List.getElem?_toArray, List.getElem?_cons_zero, List.getElem?_cons_succ] at h0 h1
  clear hg hl hm
  obtain ⟨p, hp⟩ : ∃ p : Nat, l.length = p := ⟨_, rfl⟩
  obtain ⟨q, hq⟩ : ∃ q : Nat, m.length = q := ⟨_, rfl⟩
  rw [hp] at h0 hb
  rw [hq] at h1 hb
  replace hp := AsZ.mk hp
  replace hq := AsZ.mk hq
  obtain ⟨s, hs⟩ : ∃ s : Nat, p + q = s := ⟨_, rfl⟩
  have w1 : IntKind.i64.wrap (0 + (p : Int)) = (p : Int) := by rw [Int.zero_add]; exact Go.IntWalk.i64_in _ ⟨by omega, by omega⟩
  have w0 : IntKind.i64.wrap (p : Int) = (p : Int) := Go.IntWalk.i64_in _ ⟨by omega, by omega⟩
  have w2 : IntKind.i64.wrap ((p : Int) + (q : Int)) = (s : Int) := by rw [Go.IntWalk.i64_in _ ⟨by omega, by omega⟩]; omega
  have n1 : decide ((p : Int) < 0) = false := decide_eq_false (by omega)
  have n2 : decide ((s : Int) < 0) = false := decide_eq_false (by omega)
  have hsb : s ≤ 1000000 := by omega
  replace hs := AsZ.mk hs
  replace hb := AsZ.mk hb
  go_enter Tryd.func59, Tryd.ntmps59
  go_wp2
  go_loopg [3, 5, 11] 2 (fun gg s3 _ s11 wr => ∃ kk : Nat, kk ≤ 2 ∧ 2 - kk ≤ gg ∧ s11 = .int .i64 kk ∧ s3 = .int .i64 (if kk = 0 then 0 else if kk = 1 then (p : Int) else (s : Int)) ∧ wr = w)
  case atStart => exact ⟨0, by omega, by omega, rfl, rfl, rfl⟩
  case round =>
    obtain ⟨kk, hkk, hgg, rfl, rfl, hwr⟩ := hrel
    obtain rfl := hwr
    have h3 : kk = 0 ∨ kk = 1 ∨ kk = 2 := by omega
    rcases h3 with rfl | rfl | rfl
    · go_wp2
      go_roundg 1
      case measure => omega
      case rel => exact ⟨1, by omega, by omega, by go_num, by simp, rfl⟩
    · go_wp2
      go_roundg 0
      case measure => omega
      case rel => exact ⟨2, by omega, by omega, by go_num, by simp, rfl⟩
    · go_wp2_with (go_at_call 69; refine (grow_calls s hsb _).mono ?_; rintro e w' ⟨v, rfl, hR, hbw⟩; replace hR := AsZ.mk hR; replace hbw := AsZ.mk hbw)
      clear h0 h1
      go_loopg [6, 8, 27] 2 (fun gg s6 _ s27 wq => ∃ kk : Nat, kk ≤ 2 ∧ 2 - kk ≤ gg ∧ s27 = .int .i64 kk ∧ AsZ (Kd.R (Kd.int .i64) 3 wq wr.heap.size (fun _ => True) s6 (if kk = 0 then [] else if kk = 1 then l else l ++ m)) ∧ AsZ (Below wr.heap.size wr wq))
      case atStart => exact ⟨0, by omega, by omega, rfl, ⟨hR.out⟩, ⟨hbw.out⟩⟩
      case round =>
        obtain ⟨kk, hkk2, hgg2, rfl, HQ, BQ⟩ := hrel
        clear hR hbw
        have hg' := bBl HG.out BQ.out
        have h0' := (bCe hg' 0).trans rfl
        have h1' := (bCe hg' 1).trans rfl
        simp only [List.getElem?_toArray, List.getElem?_cons_zero, List.getElem?_cons_succ] at h0' h1'
        rw [hp.out] at h0'
        rw [hq.out] at h1'
        have HL' := AsZ.mk (Kd.C_below HL.out BQ.out)
        have HM' := AsZ.mk (Kd.C_below HM.out BQ.out)
        clear hg'
        have h3 : kk = 0 ∨ kk = 1 ∨ kk = 2 := by omega
        rcases h3 with rfl | rfl | rfl
        · simp only [if_true] at HQ
          obtain ⟨A6, c6, e6⟩ := Kd.R_slice HQ.out
          subst e6
          rw [List.length_nil] at HQ ⊢
          go_wp2_with (at_builtin; (refine Kd.R_append_rows (Kd.int .i64) _ rfl (.tmp 31) (.tmp 32) 22 3 (.int .i64 0) 8 rfl Tryd.underlying22 infoInt_ rfl (by decide) (by decide) (.slice A6 0 c6) [] l A p c (fun _ => True) (fun _ => False) rfl rfl HQ.out (by rw [← hp.out]; exact HL'.out) (fun x cs h => h) (fun _ h => h.elim) (fun _ _ => trivial) BQ.out BQ.out.size (by have h1_ := hp.out; have h2_ := hq.out; have h3_ := hb.out; (try simp only [List.length_nil]); omega) ?_; intro v1 w1 hR1 hb1 _ _; replace hR1 := AsZ.mk hR1; replace hb1 := AsZ.mk hb1; obtain ⟨A7, c7, e7⟩ := Kd.R_slice hR1.out; subst e7))
          go_roundg 1
          case measure => omega
          case rel => exact ⟨1, by omega, by omega, by go_num, ⟨by simpa using hR1.out⟩, ⟨hb1.out⟩⟩
        · simp only [show ¬ (1 = 0) by decide, if_false, if_true] at HQ
          obtain ⟨A6, c6, e6⟩ := Kd.R_slice HQ.out
          subst e6
          rw [hp.out] at HQ ⊢
          go_wp2_with (at_builtin; (refine Kd.R_append_rows (Kd.int .i64) _ rfl (.tmp 31) (.tmp 32) 22 3 (.int .i64 0) 8 rfl Tryd.underlying22 infoInt_ rfl (by decide) (by decide) (.slice A6 p c6) l m B q d (fun _ => True) (fun _ => False) rfl rfl HQ.out (by rw [← hq.out]; exact HM'.out) (fun x cs h => h) (fun _ h => h.elim) (fun _ _ => trivial) BQ.out BQ.out.size (by have h1_ := hp.out; have h2_ := hq.out; have h3_ := hb.out; (try simp only [List.length_nil]); omega) ?_; intro v1 w1 hR1 hb1 _ _; replace hR1 := AsZ.mk hR1; replace hb1 := AsZ.mk hb1; obtain ⟨A7, c7, e7⟩ := Kd.R_slice hR1.out; subst e7))
          go_roundg 0
          case measure => omega
          case rel => exact ⟨2, by omega, by omega, by go_num, ⟨by simpa using hR1.out⟩, ⟨hb1.out⟩⟩
        · simp only [show ¬ (2 = 0) by decide, show ¬ (2 = 1) by decide, if_false] at HQ
          obtain ⟨A6, c6, e6⟩ := Kd.R_slice HQ.out
          subst e6
          go_wp2
          go_ret
          exact ⟨_, rfl, HQ.out, BQ.out⟩
end Go.Proofs.YtcnlmpjoghogbaaDoor.Ag
namespace Go.Proofs.YtcnlmpjoghogbaaDoor.Ag
open Go Go.RowKit Go.Shelf Go.Proofs Go.Proofs.YtcnlmpjoghogbaaDoor.Xw Go.Proofs.YtcnlmpjoghogbaaDoor.PAll Go.Proofs.YtcnlmpjoghogbaaDoorW.PrintWords Go.Proofs.YtcnlmpjoghogbaaDoorW.PrintLast Go.Proofs.YtcnlmpjoghogbaaDoorW.PrintMore
attribute [local go_sem] Oper.semAt_some
attribute [local go_sem ↓] ldMap_eq
set_option linter.unusedSimpArgs false in
set_option linter.unusedVariables false in
set_option maxRecDepth 100000 in
set_option maxHeartbeats 8000000 in
theorem withP_calls (A0 A1 A2 A3 : Option Addr) (c0 c1 n2 c2 c3 : Nat) (l0 l3 : List Int) (l1 fe : List S50) (F : Nat → Int) (w : World)
    (hr0 : Kd.C (Kd.int .i64) w A0 l0.length l0) (hr1 : Kd.C k50 w A1 l1.length l1) (hc1 : l1.length ≤ c1) (hr3 : Kd.C (Kd.int .i64) w A3 l3.length l3) (hb3 : l0.length + l3.length ≤ 1000000) (hb1 : l1.length ≤ 1000000) (hT : TabW w)
    (hF : ∀ (A : Option Addr) (c : Nat) (X : World), Kd.C (Kd.int .i64) X A (l0 ++ l3).length (l0 ++ l3) → (l0 ++ l3).length ≤ c → TabW X → Calls Tryd.prog 54 #[.slice A (l0 ++ l3).length c, .agg (agC .u64 65 F)] X fun e X' => ∃ v, e = .returned v ∧ Kd.R k50 50 X' X.heap.size (fun _ => True) v fe ∧ Below X.heap.size X X') :
    Calls Tryd.prog 39 #[.agg #[.slice A0 l0.length c0, .slice A1 l1.length c1, .slice A2 n2 c2], .slice A3 l3.length c3, .agg (agC .u64 65 F)] w fun e w' => ∃ v0 v1 v2 : Value, e = .returned (.agg #[v0, v1, v2]) ∧ Kd.R (Kd.int .i64) 3 w' w.heap.size (fun _ => True) v0 l0 ∧ Kd.R k50 50 w' w.heap.size (fun k => some k ≠ v2.ownBlock) v1 l1 ∧ Kd.R k50 50 w' w.heap.size (fun k => some k ≠ v1.ownBlock) v2 fe ∧ Below w.heap.size w w' := by
  have hb0 : l0.length ≤ 1000000 := by omega
  have H0 := AsZ.mk hr0
  have H1 := AsZ.mk hr1
  have H3 := AsZ.mk hr3
  have HT := AsZ.mk hT
  have HF := AsZ.mk hF
  replace hb0 := AsZ.mk hb0
  clear hr0 hr1 hr3 hT hF
  have KP := bAl (bAl (blk_new w (.cells #[.slice A0 l0.length c0, .slice A1 l1.length c1, .slice A2 n2 c2] 60 (0, 0))) (.cells (agC .u64 65 F) 27 (0, 0))) (.cells #[.slice none 0 0, .slice none 0 0, .slice none 0 0] 60 (0, 0))
  have KM := bAl (blk_new (w.alloc (.cells #[.slice A0 l0.length c0, .slice A1 l1.length c1, .slice A2 n2 c2] 60 (0, 0))) (.cells (agC .u64 65 F) 27 (0, 0))) (.cells #[.slice none 0 0, .slice none 0 0, .slice none 0 0] 60 (0, 0))
  have KR := blk_new ((w.alloc (.cells #[.slice A0 l0.length c0, .slice A1 l1.length c1, .slice A2 n2 c2] 60 (0, 0))).alloc (.cells (agC .u64 65 F) 27 (0, 0))) (.cells #[.slice none 0 0, .slice none 0 0, .slice none 0 0] 60 (0, 0))
  rw [alloc_size] at KM
  rw [alloc_size, alloc_size] at KR
  have HX := aBl (aBl (aBl (Below.refl w.heap.size w) (.cells #[.slice A0 l0.length c0, .slice A1 l1.length c1, .slice A2 n2 c2] 60 (0, 0))) (.cells (agC .u64 65 F) 27 (0, 0))) (.cells #[.slice none 0 0, .slice none 0 0, .slice none 0 0] 60 (0, 0))
  replace KP := AsZ.mk KP
  replace KM := AsZ.mk KM
  replace KR := AsZ.mk KR
  replace HX := AsZ.mk HX
  replace hb0 := hb0.out
  go_enter Tryd.func39, Tryd.ntmps39
  go_wp2_with (fail)
  obtain ⟨wA, hwA⟩ : ∃ x, ((w.alloc (.cells #[.slice A0 l0.length c0, .slice A1 l1.length c1, .slice A2 n2 c2] 60 (0, 0))).alloc (.cells (agC .u64 65 F) 27 (0, 0))).alloc (.cells #[.slice none 0 0, .slice none 0 0, .slice none 0 0] 60 (0, 0)) = x := ⟨_, rfl⟩
  rw [hwA] at KP KM KR HX ⊢
  clear hwA
  rename_i Kz hKz
  replace hKz := AsZ.mk hKz
  have hEnd : ∀ (X0 : World) (B0 B1 : Option Addr) (d0 d1 : Nat), Below w.heap.size w X0 → Kd.R (Kd.int .i64) 3 X0 w.heap.size (fun _ => True) (.slice B0 l0.length d0) l0 → Kd.R k50 50 X0 w.heap.size (fun _ => True) (.slice B1 l1.length d1) l1 →
      X0.heap[w.heap.size]? = some (.cells #[.slice B0 l0.length d0, .slice B1 l1.length d1, .slice A2 n2 c2] 60 (0, 0)) → Holds (w.heap.size + 1) F X0 → X0.heap[w.heap.size + 1 + 1]? = some (.cells #[.slice none 0 0, .slice none 0 0, .slice none 0 0] 60 (0, 0)) →
      Kz { tmps := #[.agg #[.slice A0 l0.length c0, .slice A1 l1.length c1, .slice A2 n2 c2], .slice A3 l3.length c3, .agg (agC .u64 65 F), .pointer (some ⟨w.heap.size, 0, none⟩), undef, .pointer (some ⟨w.heap.size + 1, 0, none⟩), .pointer (some ⟨w.heap.size + 1 + 1, 0, none⟩), .pointer (some ⟨w.heap.size, 0, none⟩), .slice A0 l0.length c0, .slice B0 l0.length d0, .pointer (some ⟨w.heap.size, 1, none⟩), .slice A1 l1.length c1, .slice B1 l1.length d1, .pointer (some ⟨w.heap.size, 0, none⟩), .pointer (some ⟨w.heap.size, 1, none⟩), undef, undef, undef, undef, undef, undef, undef, undef, undef], defers := [] } X0 := by
    intro X0 B0 B1 d0 d1 HX R0 R1 KP KM KR
    replace HX := AsZ.mk HX
    replace R0 := AsZ.mk R0
    replace R1 := AsZ.mk R1
    replace KP := AsZ.mk KP
    replace KM := AsZ.mk KM
    replace KR := AsZ.mk KR
    refine hKz.out _ _ ?_
    clear hKz
    go_wp2_with (fail)
    rename_i Kz2 hKz2
    replace hKz2 := AsZ.mk hKz2
    have hS : ∀ X, Holds (w.heap.size + 1) F X → (ldMap (.pointer (some ⟨w.heap.size + 1, 0, none⟩))).run Tryd.prog X = .ok (.agg (agC .u64 65 F)) X := fun X h => ldMap_run h
    refine wp_region_noPanic ?_
    refine wp_region_held_drew (S := fun X => Holds (w.heap.size + 1) F X) (by kernel_rfl) KM.out (fun hHeld => ?_)
    replace HX := AsZ.mk (dBl HX.out)
    replace R0 := AsZ.mk (Kd.R_drew R0.out)
    replace R1 := AsZ.mk (Kd.R_drew R1.out)
    replace KP := AsZ.mk (bDr KP.out)
    replace KM := AsZ.mk hHeld
    replace KR := AsZ.mk (bDr KR.out)
    generalize X0.drew = X0 at HX R0 R1 KP KM KR hHeld ⊢
    refine wpAnyH_take (i := 0) (oi := { dst := some 15, op := Go.Op.fieldAddr 60 (Go.Operand.tmp 3) 0, type := 0, pos := "plan.go:38", after := #[], guard := none }) (v := ?_) rfl (by kernel_rfl) (by kernel_rfl) (by kernel_rfl) (fun _ _ _ h => h) (Or.inl ⟨by kernel_rfl, ?_⟩) (by assumption) ?_
    rotate_left
    · intro W hSw; go_simp; first | done | with_reducible rfl
    try simp only [Act.put, List.setIfInBounds_toArray, List.set_cons_zero, List.set_cons_succ]
    refine wpAnyH_take (i := 2) (oi := { dst := some 17, op := Go.Op.move (Go.Operand.tmp 1), type := 22, pos := "plan.go:38", after := #[], guard := none }) (v := ?_) rfl (by kernel_rfl) (by kernel_rfl) (by kernel_rfl) (fun _ _ _ h => h) (Or.inl ⟨by kernel_rfl, ?_⟩) (by assumption) ?_
    rotate_left
    · intro W hSw; go_simp; first | done | with_reducible rfl
    try simp only [Act.put, List.setIfInBounds_toArray, List.set_cons_zero, List.set_cons_succ]
    refine wpAnyH_take (i := 5) (oi := { dst := some 20, op := Go.Op.load 27 (Go.Operand.tmp 5), type := 27, pos := "plan.go:38", after := #[], guard := none }) (v := ?_) rfl (by kernel_rfl) (by kernel_rfl) (by kernel_rfl) (fun _ _ _ h => h) (Or.inl ⟨by kernel_rfl, ?_⟩) (by assumption) ?_
    rotate_left
    · intro W hSw; go_simp; first | done | with_reducible rfl
    try simp only [Act.put, List.setIfInBounds_toArray, List.set_cons_zero, List.set_cons_succ]
    refine wpAnyH_ready (rs := [1]) (by kernel_rfl) (by simp) ?_
    refine AllReadyH.cons (o := { dst := some 16, op := Go.Op.load 22 (Go.Operand.tmp 15), type := 22, pos := "plan.go:38", after := #[{ on := 0, ground := Go.Ground.data }], guard := none }) rfl (fun K hK => ?_) AllReadyH.nil
    have hp0 := (bCe KP.out 0).trans rfl
    simp only [List.getElem?_toArray, List.getElem?_cons_zero, List.getElem?_cons_succ] at hp0
    go_simp
    clear hp0
    refine hK.out _ _ ?_ (fun hHeld => ?_)
    · exact KM.out
    clear hK K
    try simp only [Act.put, List.setIfInBounds_toArray, List.set_cons_zero, List.set_cons_succ]
    refine wpAnyH_ready (rs := [3]) (by kernel_rfl) (by simp) ?_
    refine AllReadyH.cons (o := { dst := some 18, op := Go.Op.buildSlice 90 2 #[(0, Go.Operand.tmp 16), (1, Go.Operand.tmp 17)], type := 90, pos := "plan.go:38", after := #[{ on := 1, ground := Go.Ground.data }, { on := 2, ground := Go.Ground.data }], guard := none }) rfl (fun K hK => ?_) AllReadyH.nil
    have hb := aBl (Below.refl X0.heap.size X0) (.cells #[.slice B0 l0.length d0, .slice A3 l3.length c3] 22 (0, 0))
    have KG := AsZ.mk (blk_new X0 (.cells #[.slice B0 l0.length d0, .slice A3 l3.length c3] 22 (0, 0)))
    go_simp
    (try replace R0 := AsZ.mk (Kd.R_below R0.out hb))
    (try replace R1 := AsZ.mk (Kd.R_below R1.out hb))
    replace KP := AsZ.mk (bBl KP.out hb)
    replace KM := AsZ.mk (bBl KM.out hb)
    replace KR := AsZ.mk (bBl KR.out hb)
    replace HX := AsZ.mk (tBl HX.out hb)
    clear hb
    refine hK.out _ _ ?_ (fun hHeld => ?_)
    · exact KM.out
    clear hK K
    try simp only [Act.put, List.setIfInBounds_toArray, List.set_cons_zero, List.set_cons_succ]
    refine wpAnyH_ready (rs := [4]) (by kernel_rfl) (by simp) ?_
    refine AllReadyH.cons (o := { dst := some 19, op := Go.Op.call { callee := Go.Callee.value (Go.Operand.func 59), args := #[Go.Operand.tmp 18], argTypes := #[90] }, type := 22, pos := "plan.go:38", after := #[{ on := 3, ground := Go.Ground.data }], guard := none }) rfl (fun K hK => ?_) AllReadyH.nil
    refine goes_ (N := some 19) («as» := #[.tmp 18]) Tryd.func59 (by kernel_rfl) rfl #[.slice (some ⟨X0.heap.size, 0, none⟩) 2 2] (by kernel_rfl) rfl rfl (by kernel_rfl) ?_
    with_reducible refine (concat_calls X0.heap.size B0 A3 d0 c3 l0 l3 _ KG.out (Kd.R_reads' R0.out).2.2 (Kd.C_below H3.out HX.out) hb3).mono ?_
    rintro e X ⟨v, rfl, hR, hb⟩
    refine ⟨_, rfl, ?_⟩
    obtain ⟨B4, d4, rfl⟩ := Kd.R_slice hR
    have RC := AsZ.mk (Kd.R_reads' hR)
    (try replace R0 := AsZ.mk (Kd.R_below R0.out hb))
    (try replace R1 := AsZ.mk (Kd.R_below R1.out hb))
    replace KP := AsZ.mk (bBl KP.out hb)
    replace KM := AsZ.mk (bBl KM.out hb)
    replace KR := AsZ.mk (bBl KR.out hb)
    replace HX := AsZ.mk (tBl HX.out hb)
    clear hb hR
    refine hK.out _ _ ?_ (fun hHeld => ?_)
    · exact KM.out
    clear hK K
    try simp only [Act.put, List.setIfInBounds_toArray, List.set_cons_zero, List.set_cons_succ]
    refine wpAnyH_ready (rs := [6]) (by kernel_rfl) (by simp) ?_
    refine AllReadyH.cons (o := { dst := some 21, op := Go.Op.call { callee := Go.Callee.value (Go.Operand.func 54), args := #[Go.Operand.tmp 19, Go.Operand.tmp 20], argTypes := #[22, 27] }, type := 40, pos := "plan.go:38", after := #[{ on := 4, ground := Go.Ground.data }, { on := 5, ground := Go.Ground.data }, { on := 4, ground := Go.Ground.chain }], guard := none }) rfl (fun K hK => ?_) AllReadyH.nil
    refine goes_ (N := some 21) («as» := #[.tmp 19, .tmp 20]) Tryd.func54 (by kernel_rfl) rfl #[.slice B4 (l0 ++ l3).length d4, .agg (agC .u64 65 F)] (by kernel_rfl) rfl rfl (by kernel_rfl) ?_
    with_reducible refine (HF.out B4 d4 _ RC.out.2.2 RC.out.2.1 (HT.out.step HX.out)).mono ?_
    rintro e X ⟨v, rfl, hR, hb⟩
    refine ⟨_, rfl, ?_⟩
    obtain ⟨B2, d2, rfl⟩ := Kd.R_slice hR
    have R1e := AsZ.mk (Kd.R_elder' R1.out (Kd.R_base hR) hb)
    have R2e := AsZ.mk (Kd.R_new' hR (Kd.R_lt R1.out))
    replace R0 := AsZ.mk (Kd.R_below R0.out hb)
    replace KP := AsZ.mk (bBl KP.out hb)
    replace KM := AsZ.mk (bBl KM.out hb)
    replace KR := AsZ.mk (bBl KR.out hb)
    have R2 := AsZ.mk (Kd.R_lower R2e.out HX.out.size)
    clear R1
    have R1 := R1e
    replace HX := AsZ.mk (tBl HX.out hb)
    clear hb hR R1e R2e
    refine hK.out _ _ ?_ (fun hHeld => ?_)
    · exact KM.out
    clear hK K
    try simp only [Act.put, List.setIfInBounds_toArray, List.set_cons_zero, List.set_cons_succ]
    refine wpAnyH_take (i := 7) (oi := { dst := some 22, op := Go.Op.fieldAddr 60 (Go.Operand.tmp 3) 2, type := 0, pos := "plan.go:38", after := #[{ on := 0, ground := Go.Ground.phase }, { on := 1, ground := Go.Ground.phase }, { on := 2, ground := Go.Ground.phase }, { on := 3, ground := Go.Ground.phase }, { on := 4, ground := Go.Ground.phase }, { on := 5, ground := Go.Ground.phase }, { on := 6, ground := Go.Ground.phase }], guard := none }) (v := ?_) rfl (by kernel_rfl) (by kernel_rfl) (by kernel_rfl) (fun _ _ _ h => h) (Or.inl ⟨by kernel_rfl, ?_⟩) (by assumption) ?_
    rotate_left
    · intro W hSw; go_simp; first | done | with_reducible rfl
    try simp only [Act.put, List.setIfInBounds_toArray, List.set_cons_zero, List.set_cons_succ]
    refine wpAnyH_ready (rs := [8]) (by kernel_rfl) (by simp) ?_
    refine AllReadyH.cons (o := { dst := none, op := Go.Op.store 40 (Go.Operand.tmp 22) (Go.Operand.tmp 21), type := 0, pos := "plan.go:38", after := #[{ on := 7, ground := Go.Ground.data }, { on := 6, ground := Go.Ground.data }, { on := 6, ground := Go.Ground.chain }, { on := 0, ground := Go.Ground.phase }, { on := 1, ground := Go.Ground.phase }, { on := 2, ground := Go.Ground.phase }, { on := 3, ground := Go.Ground.phase }, { on := 4, ground := Go.Ground.phase }, { on := 5, ground := Go.Ground.phase }, { on := 6, ground := Go.Ground.phase }], guard := none }) rfl (fun K hK => ?_) AllReadyH.nil
    have hp_ := (bCe KP.out 2).trans (show _ = some (.slice A2 n2 c2) from rfl)
    have hf_ := bFz KP.out 2
    go_simp
    clear hp_ hf_
    replace R0 := AsZ.mk (Kd.R_set R0.out KP.out (by decide) 2 (.slice B2 fe.length d2))
    replace R1 := AsZ.mk (Kd.R_set R1.out KP.out (by decide) 2 (.slice B2 fe.length d2))
    replace R2 := AsZ.mk (Kd.R_set R2.out KP.out (by decide) 2 (.slice B2 fe.length d2))
    replace KM := AsZ.mk ((Below.heap_setCell _ ⟨w.heap.size, 2, none⟩ (.slice B2 fe.length d2) (w.heap.size + 1) (by show w.heap.size + 1 ≠ w.heap.size; omega)).trans KM.out)
    replace KR := AsZ.mk ((Below.heap_setCell _ ⟨w.heap.size, 2, none⟩ (.slice B2 fe.length d2) (w.heap.size + 1 + 1) (by show w.heap.size + 1 + 1 ≠ w.heap.size; omega)).trans KR.out)
    replace HX := AsZ.mk (HX.out.setCell (p := ⟨w.heap.size, 2, none⟩) (Nat.le_refl _) (.slice B2 fe.length d2))
    replace KP := AsZ.mk (blk_set KP.out 2 (.slice B2 fe.length d2))
    refine hK.out _ _ ?_ (fun hHeld => ?_)
    · exact KM.out
    clear hK K
    try simp only [Act.put, List.setIfInBounds_toArray, List.set_cons_zero, List.set_cons_succ]
    refine wpAnyH_done (by kernel_rfl) ?_ _
    try simp only [Act.put, List.setIfInBounds_toArray, List.set_cons_zero, List.set_cons_succ, List.getElem_toArray, List.getElem_cons_zero, List.getElem_cons_succ]
    refine NoPanic.normal ?_
    (try dsimp only [Exit.then])
    refine hKz2.out _ _ ?_
    clear hHeld KG RC hS
    generalize World.setCell _ _ _ = Z at R0 R1 R2 KP KM KR HX ⊢
    have hp0 : Z.cell? ⟨w.heap.size, 0, none⟩ = some (.slice B0 l0.length d0) := (bCe KP.out 0).trans rfl
    have hp1 : Z.cell? ⟨w.heap.size, 1, none⟩ = some (.slice B1 l1.length d1) := (bCe KP.out 1).trans rfl
    have hp2 : Z.cell? ⟨w.heap.size, 2, none⟩ = some (.slice B2 fe.length d2) := (bCe KP.out 2).trans rfl
    have hr0 : Z.cell? ⟨w.heap.size + 1 + 1, 0, none⟩ = some (.slice none 0 0) := (bCe KR.out 0).trans rfl
    have fr0 := bFz KR.out 0
    have hr1 : Z.cell? ⟨w.heap.size + 1 + 1, 1, none⟩ = some (.slice none 0 0) := (bCe KR.out 1).trans rfl
    have fr1 := bFz KR.out 1
    have hr2 : Z.cell? ⟨w.heap.size + 1 + 1, 2, none⟩ = some (.slice none 0 0) := (bCe KR.out 2).trans rfl
    have fr2 := bFz KR.out 2
    clear KP KM
    go_wp2
    refine bodyPost_ret (results_cell_row rfl _ _ (w.heap.size + 1 + 1) 60 #[.slice B0 l0.length d0, .slice B1 l1.length d1, .slice B2 fe.length d2] (0, 0) _ rfl (blk_set (blk_set (blk_set KR.out 0 (.slice B0 l0.length d0)) 1 (.slice B1 l1.length d1)) 2 (.slice B2 fe.length d2)) Tryd.underlying60 rfl (by kernel_rfl)) rfl ?_
    exact ⟨_, _, _, rfl, Kd.R_set (Kd.R_set (Kd.R_set R0.out KR.out (by decide) 0 (.slice B0 l0.length d0)) (blk_set KR.out 0 (.slice B0 l0.length d0)) (by decide) 1 (.slice B1 l1.length d1)) (blk_set (blk_set KR.out 0 (.slice B0 l0.length d0)) 1 (.slice B1 l1.length d1)) (by decide) 2 (.slice B2 fe.length d2), Kd.R_mono (Kd.R_set (Kd.R_set (Kd.R_set R1.out KR.out (by decide) 0 (.slice B0 l0.length d0)) (blk_set KR.out 0 (.slice B0 l0.length d0)) (by decide) 1 (.slice B1 l1.length d1)) (blk_set (blk_set KR.out 0 (.slice B0 l0.length d0)) 1 (.slice B1 l1.length d1)) (by decide) 2 (.slice B2 fe.length d2)) (fun _ h => h.2), Kd.R_mono (Kd.R_set (Kd.R_set (Kd.R_set R2.out KR.out (by decide) 0 (.slice B0 l0.length d0)) (blk_set KR.out 0 (.slice B0 l0.length d0)) (by decide) 1 (.slice B1 l1.length d1)) (blk_set (blk_set KR.out 0 (.slice B0 l0.length d0)) 1 (.slice B1 l1.length d1)) (by decide) 2 (.slice B2 fe.length d2)) (fun _ h => h.2), ((HX.out.setCell (p := ⟨w.heap.size + 1 + 1, 0, none⟩) (by show w.heap.size ≤ w.heap.size + 1 + 1; omega) _).setCell (p := ⟨w.heap.size + 1 + 1, 1, none⟩) (by show w.heap.size ≤ w.heap.size + 1 + 1; omega) _).setCell (p := ⟨w.heap.size + 1 + 1, 2, none⟩) (by show w.heap.size ≤ w.heap.size + 1 + 1; omega) _⟩
  replace hEnd := AsZ.mk hEnd
  clear hKz
  refine wp_region_noPanic ?_
  refine wp_region_held_drew (S := fun _ => True) (by kernel_rfl) trivial (fun hHeld => ?_)
  replace HX := AsZ.mk (dBl HX.out)
  replace KP := AsZ.mk (bDr KP.out)
  replace KM := AsZ.mk (bDr KM.out)
  replace KR := AsZ.mk (bDr KR.out)
  generalize wA.drew = wA at HX KP KM KR ⊢
  refine wpAnyH_take (i := 0) (oi := { dst := some 7, op := Go.Op.fieldAddr 60 (Go.Operand.tmp 3) 0, type := 0, pos := "plan.go:37", after := #[], guard := none }) (v := ?_) rfl (by kernel_rfl) (by kernel_rfl) (by kernel_rfl) (fun _ _ _ h => h) (Or.inl ⟨by kernel_rfl, ?_⟩) (by assumption) ?_
  rotate_left
  · intro W hSw; go_simp; first | done | with_reducible rfl
  try simp only [Act.put, List.setIfInBounds_toArray, List.set_cons_zero, List.set_cons_succ]
  refine wpAnyH_take (i := 3) (oi := { dst := some 10, op := Go.Op.fieldAddr 60 (Go.Operand.tmp 3) 1, type := 0, pos := "plan.go:37", after := #[], guard := none }) (v := ?_) rfl (by kernel_rfl) (by kernel_rfl) (by kernel_rfl) (fun _ _ _ h => h) (Or.inl ⟨by kernel_rfl, ?_⟩) (by assumption) ?_
  rotate_left
  · intro W hSw; go_simp; first | done | with_reducible rfl
  try simp only [Act.put, List.setIfInBounds_toArray, List.set_cons_zero, List.set_cons_succ]
  refine wpAnyH_ready (rs := [1, 4]) (by kernel_rfl) (by simp) ?_
  refine AllReadyH.cons (o := { dst := some 8, op := Go.Op.load 22 (Go.Operand.tmp 7), type := 22, pos := "plan.go:37", after := #[{ on := 0, ground := Go.Ground.data }], guard := none }) rfl (fun K hK => ?_) (AllReadyH.cons (o := { dst := some 11, op := Go.Op.load 40 (Go.Operand.tmp 10), type := 40, pos := "plan.go:37", after := #[{ on := 3, ground := Go.Ground.data }], guard := none }) rfl (fun K hK => ?_) AllReadyH.nil)
  · have hp0 := (bCe KP.out 0).trans rfl
    have hp1 := (bCe KP.out 1).trans rfl
    simp only [List.getElem?_toArray, List.getElem?_cons_zero, List.getElem?_cons_succ] at hp0 hp1
    go_simp
    clear hp0 hp1
    refine hK.out _ _ ?_ (fun hHeld => ?_)
    · trivial
    clear hK K
    try simp only [Act.put, List.setIfInBounds_toArray, List.set_cons_zero, List.set_cons_succ]
    refine wpAnyH_ready (rs := [2, 4]) (by kernel_rfl) (by simp) ?_
    refine AllReadyH.cons (o := { dst := some 9, op := Go.Op.call { callee := Go.Callee.value (Go.Operand.func 58), args := #[Go.Operand.tmp 8], argTypes := #[22] }, type := 22, pos := "plan.go:37", after := #[{ on := 1, ground := Go.Ground.data }], guard := none }) rfl (fun K hK => ?_) (AllReadyH.cons (o := { dst := some 11, op := Go.Op.load 40 (Go.Operand.tmp 10), type := 40, pos := "plan.go:37", after := #[{ on := 3, ground := Go.Ground.data }], guard := none }) rfl (fun K hK => ?_) AllReadyH.nil)
    · refine goes_ (N := some 9) («as» := #[.tmp 8]) Tryd.func58 (by kernel_rfl) rfl #[.slice A0 l0.length c0] (by kernel_rfl) rfl rfl (by kernel_rfl) ?_
      with_reducible refine (cloneI_calls A0 c0 l0 _ (Kd.C_below H0.out HX.out) hb0).mono ?_
      rintro e X ⟨v, rfl, hR, hb⟩
      refine ⟨_, rfl, ?_⟩
      obtain ⟨B0, d0, rfl⟩ := Kd.R_slice hR
      (try replace R0 := AsZ.mk (Kd.R_below R0.out hb))
      (try replace R1 := AsZ.mk (Kd.R_below R1.out hb))
      replace KP := AsZ.mk (bBl KP.out hb)
      replace KM := AsZ.mk (bBl KM.out hb)
      replace KR := AsZ.mk (bBl KR.out hb)
      have R0 := AsZ.mk (Kd.R_lower hR HX.out.size)
      replace HX := AsZ.mk (tBl HX.out hb)
      clear hb hR
      refine hK.out _ _ ?_ (fun hHeld => ?_)
      · trivial
      clear hK K
      try simp only [Act.put, List.setIfInBounds_toArray, List.set_cons_zero, List.set_cons_succ]
      refine wpAnyH_ready (rs := [4]) (by kernel_rfl) (by simp) ?_
      refine AllReadyH.cons (o := { dst := some 11, op := Go.Op.load 40 (Go.Operand.tmp 10), type := 40, pos := "plan.go:37", after := #[{ on := 3, ground := Go.Ground.data }], guard := none }) rfl (fun K hK => ?_) AllReadyH.nil
      have hp0 := (bCe KP.out 0).trans rfl
      have hp1 := (bCe KP.out 1).trans rfl
      simp only [List.getElem?_toArray, List.getElem?_cons_zero, List.getElem?_cons_succ] at hp0 hp1
      go_simp
      clear hp0 hp1
      refine hK.out _ _ ?_ (fun hHeld => ?_)
      · trivial
      clear hK K
      try simp only [Act.put, List.setIfInBounds_toArray, List.set_cons_zero, List.set_cons_succ]
      refine wpAnyH_take (i := 6) (oi := { dst := some 13, op := Go.Op.fieldAddr 60 (Go.Operand.tmp 3) 0, type := 0, pos := "plan.go:37", after := #[{ on := 0, ground := Go.Ground.phase }, { on := 1, ground := Go.Ground.phase }, { on := 2, ground := Go.Ground.phase }, { on := 3, ground := Go.Ground.phase }, { on := 4, ground := Go.Ground.phase }, { on := 5, ground := Go.Ground.textOnly Go.Departure.lateStoresUnsure }], guard := none }) (v := ?_) rfl (by kernel_rfl) (by kernel_rfl) (by kernel_rfl) (fun _ _ _ h => h) (Or.inl ⟨by kernel_rfl, ?_⟩) (by assumption) ?_
      rotate_left
      · intro W hSw; go_simp; first | done | with_reducible rfl
      try simp only [Act.put, List.setIfInBounds_toArray, List.set_cons_zero, List.set_cons_succ]
      refine wpAnyH_ready (rs := [5]) (by kernel_rfl) (by simp) ?_
      refine AllReadyH.cons (o := { dst := some 12, op := Go.Op.call { callee := Go.Callee.value (Go.Operand.func 48), args := #[Go.Operand.tmp 11], argTypes := #[40] }, type := 40, pos := "plan.go:37", after := #[{ on := 4, ground := Go.Ground.data }, { on := 2, ground := Go.Ground.chain }], guard := none }) rfl (fun K hK => ?_) AllReadyH.nil
      refine goes_ (N := some 12) («as» := #[.tmp 11]) Tryd.func48 (by kernel_rfl) rfl #[.slice A1 l1.length c1] (by kernel_rfl) rfl rfl (by kernel_rfl) ?_
      with_reducible refine (clone_calls A1 c1 l1 _ (Kd.C_below H1.out HX.out) hc1 hb1).mono ?_
      rintro e X ⟨v, rfl, hR, hb⟩
      refine ⟨_, rfl, ?_⟩
      obtain ⟨B1, d1, rfl⟩ := Kd.R_slice hR
      (try replace R0 := AsZ.mk (Kd.R_below R0.out hb))
      (try replace R1 := AsZ.mk (Kd.R_below R1.out hb))
      replace KP := AsZ.mk (bBl KP.out hb)
      replace KM := AsZ.mk (bBl KM.out hb)
      replace KR := AsZ.mk (bBl KR.out hb)
      have R1 := AsZ.mk (Kd.R_lower hR HX.out.size)
      replace HX := AsZ.mk (tBl HX.out hb)
      clear hb hR
      refine hK.out _ _ ?_ (fun hHeld => ?_)
      · trivial
      clear hK K
      try simp only [Act.put, List.setIfInBounds_toArray, List.set_cons_zero, List.set_cons_succ]
      refine wpAnyH_ready (rs := [7]) (by kernel_rfl) (by simp) ?_
      refine AllReadyH.cons (o := { dst := none, op := Go.Op.store 22 (Go.Operand.tmp 13) (Go.Operand.tmp 9), type := 0, pos := "plan.go:37", after := #[{ on := 6, ground := Go.Ground.data }, { on := 2, ground := Go.Ground.data }, { on := 5, ground := Go.Ground.chain }, { on := 0, ground := Go.Ground.phase }, { on := 1, ground := Go.Ground.phase }, { on := 2, ground := Go.Ground.phase }, { on := 3, ground := Go.Ground.phase }, { on := 4, ground := Go.Ground.phase }, { on := 5, ground := Go.Ground.textOnly Go.Departure.lateStoresUnsure }], guard := none }) rfl (fun K hK => ?_) AllReadyH.nil
      have hp_ := (bCe KP.out 0).trans (show _ = some (.slice A0 l0.length c0) from rfl)
      have hf_ := bFz KP.out 0
      go_simp
      clear hp_ hf_
      replace R0 := AsZ.mk (Kd.R_set R0.out KP.out (by decide) 0 (.slice B0 l0.length d0))
      replace R1 := AsZ.mk (Kd.R_set R1.out KP.out (by decide) 0 (.slice B0 l0.length d0))
      replace KM := AsZ.mk ((Below.heap_setCell _ ⟨w.heap.size, 0, none⟩ (.slice B0 l0.length d0) (w.heap.size + 1) (by show w.heap.size + 1 ≠ w.heap.size; omega)).trans KM.out)
      replace KR := AsZ.mk ((Below.heap_setCell _ ⟨w.heap.size, 0, none⟩ (.slice B0 l0.length d0) (w.heap.size + 1 + 1) (by show w.heap.size + 1 + 1 ≠ w.heap.size; omega)).trans KR.out)
      replace HX := AsZ.mk (HX.out.setCell (p := ⟨w.heap.size, 0, none⟩) (Nat.le_refl _) (.slice B0 l0.length d0))
      replace KP := AsZ.mk (blk_set KP.out 0 (.slice B0 l0.length d0))
      refine hK.out _ _ ?_ (fun hHeld => ?_)
      · trivial
      clear hK K
      try simp only [Act.put, List.setIfInBounds_toArray, List.set_cons_zero, List.set_cons_succ]
      refine wpAnyH_take (i := 8) (oi := { dst := some 14, op := Go.Op.fieldAddr 60 (Go.Operand.tmp 3) 1, type := 0, pos := "plan.go:37", after := #[{ on := 0, ground := Go.Ground.phase }, { on := 1, ground := Go.Ground.phase }, { on := 2, ground := Go.Ground.phase }, { on := 3, ground := Go.Ground.phase }, { on := 4, ground := Go.Ground.phase }, { on := 5, ground := Go.Ground.phase }, { on := 6, ground := Go.Ground.phase }, { on := 7, ground := Go.Ground.phase }], guard := none }) (v := ?_) rfl (by kernel_rfl) (by kernel_rfl) (by kernel_rfl) (fun _ _ _ h => h) (Or.inl ⟨by kernel_rfl, ?_⟩) (by assumption) ?_
      rotate_left
      · intro W hSw; go_simp; first | done | with_reducible rfl
      try simp only [Act.put, List.setIfInBounds_toArray, List.set_cons_zero, List.set_cons_succ]
      refine wpAnyH_ready (rs := [9]) (by kernel_rfl) (by simp) ?_
      refine AllReadyH.cons (o := { dst := none, op := Go.Op.store 40 (Go.Operand.tmp 14) (Go.Operand.tmp 12), type := 0, pos := "plan.go:37", after := #[{ on := 8, ground := Go.Ground.data }, { on := 5, ground := Go.Ground.data }, { on := 7, ground := Go.Ground.chain }, { on := 0, ground := Go.Ground.phase }, { on := 1, ground := Go.Ground.phase }, { on := 2, ground := Go.Ground.phase }, { on := 3, ground := Go.Ground.phase }, { on := 4, ground := Go.Ground.phase }, { on := 5, ground := Go.Ground.phase }, { on := 6, ground := Go.Ground.phase }, { on := 7, ground := Go.Ground.phase }], guard := none }) rfl (fun K hK => ?_) AllReadyH.nil
      have hp_ := (bCe KP.out 1).trans (show _ = some (.slice A1 l1.length c1) from rfl)
      have hf_ := bFz KP.out 1
      go_simp
      clear hp_ hf_
      replace R0 := AsZ.mk (Kd.R_set R0.out KP.out (by decide) 1 (.slice B1 l1.length d1))
      replace R1 := AsZ.mk (Kd.R_set R1.out KP.out (by decide) 1 (.slice B1 l1.length d1))
      replace KM := AsZ.mk ((Below.heap_setCell _ ⟨w.heap.size, 1, none⟩ (.slice B1 l1.length d1) (w.heap.size + 1) (by show w.heap.size + 1 ≠ w.heap.size; omega)).trans KM.out)
      replace KR := AsZ.mk ((Below.heap_setCell _ ⟨w.heap.size, 1, none⟩ (.slice B1 l1.length d1) (w.heap.size + 1 + 1) (by show w.heap.size + 1 + 1 ≠ w.heap.size; omega)).trans KR.out)
      replace HX := AsZ.mk (HX.out.setCell (p := ⟨w.heap.size, 1, none⟩) (Nat.le_refl _) (.slice B1 l1.length d1))
      replace KP := AsZ.mk (blk_set KP.out 1 (.slice B1 l1.length d1))
      refine hK.out _ _ ?_ (fun hHeld => ?_)
      · trivial
      clear hK K
      try simp only [Act.put, List.setIfInBounds_toArray, List.set_cons_zero, List.set_cons_succ]
      refine wpAnyH_done (by kernel_rfl) ?_ _
      try simp only [Act.put, List.setIfInBounds_toArray, List.set_cons_zero, List.set_cons_succ, List.getElem_toArray, List.getElem_cons_zero, List.getElem_cons_succ]
      refine NoPanic.normal ?_
      (try dsimp only [Exit.then])
      exact hEnd.out _ B0 B1 d0 d1 HX.out R0.out R1.out KP.out KM.out KR.out
    · have hp0 := (bCe KP.out 0).trans rfl
      have hp1 := (bCe KP.out 1).trans rfl
      simp only [List.getElem?_toArray, List.getElem?_cons_zero, List.getElem?_cons_succ] at hp0 hp1
      go_simp
      clear hp0 hp1
      refine hK.out _ _ ?_ (fun hHeld => ?_)
      · trivial
      clear hK K
      try simp only [Act.put, List.setIfInBounds_toArray, List.set_cons_zero, List.set_cons_succ]
      refine wpAnyH_ready (rs := [2]) (by kernel_rfl) (by simp) ?_
      refine AllReadyH.cons (o := { dst := some 9, op := Go.Op.call { callee := Go.Callee.value (Go.Operand.func 58), args := #[Go.Operand.tmp 8], argTypes := #[22] }, type := 22, pos := "plan.go:37", after := #[{ on := 1, ground := Go.Ground.data }], guard := none }) rfl (fun K hK => ?_) AllReadyH.nil
      refine goes_ (N := some 9) («as» := #[.tmp 8]) Tryd.func58 (by kernel_rfl) rfl #[.slice A0 l0.length c0] (by kernel_rfl) rfl rfl (by kernel_rfl) ?_
      with_reducible refine (cloneI_calls A0 c0 l0 _ (Kd.C_below H0.out HX.out) hb0).mono ?_
      rintro e X ⟨v, rfl, hR, hb⟩
      refine ⟨_, rfl, ?_⟩
      obtain ⟨B0, d0, rfl⟩ := Kd.R_slice hR
      (try replace R0 := AsZ.mk (Kd.R_below R0.out hb))
      (try replace R1 := AsZ.mk (Kd.R_below R1.out hb))
      replace KP := AsZ.mk (bBl KP.out hb)
      replace KM := AsZ.mk (bBl KM.out hb)
      replace KR := AsZ.mk (bBl KR.out hb)
      have R0 := AsZ.mk (Kd.R_lower hR HX.out.size)
      replace HX := AsZ.mk (tBl HX.out hb)
      clear hb hR
      refine hK.out _ _ ?_ (fun hHeld => ?_)
      · trivial
      clear hK K
      try simp only [Act.put, List.setIfInBounds_toArray, List.set_cons_zero, List.set_cons_succ]
      refine wpAnyH_take (i := 6) (oi := { dst := some 13, op := Go.Op.fieldAddr 60 (Go.Operand.tmp 3) 0, type := 0, pos := "plan.go:37", after := #[{ on := 0, ground := Go.Ground.phase }, { on := 1, ground := Go.Ground.phase }, { on := 2, ground := Go.Ground.phase }, { on := 3, ground := Go.Ground.phase }, { on := 4, ground := Go.Ground.phase }, { on := 5, ground := Go.Ground.textOnly Go.Departure.lateStoresUnsure }], guard := none }) (v := ?_) rfl (by kernel_rfl) (by kernel_rfl) (by kernel_rfl) (fun _ _ _ h => h) (Or.inl ⟨by kernel_rfl, ?_⟩) (by assumption) ?_
      rotate_left
      · intro W hSw; go_simp; first | done | with_reducible rfl
      try simp only [Act.put, List.setIfInBounds_toArray, List.set_cons_zero, List.set_cons_succ]
      refine wpAnyH_ready (rs := [5]) (by kernel_rfl) (by simp) ?_
      refine AllReadyH.cons (o := { dst := some 12, op := Go.Op.call { callee := Go.Callee.value (Go.Operand.func 48), args := #[Go.Operand.tmp 11], argTypes := #[40] }, type := 40, pos := "plan.go:37", after := #[{ on := 4, ground := Go.Ground.data }, { on := 2, ground := Go.Ground.chain }], guard := none }) rfl (fun K hK => ?_) AllReadyH.nil
      refine goes_ (N := some 12) («as» := #[.tmp 11]) Tryd.func48 (by kernel_rfl) rfl #[.slice A1 l1.length c1] (by kernel_rfl) rfl rfl (by kernel_rfl) ?_
      with_reducible refine (clone_calls A1 c1 l1 _ (Kd.C_below H1.out HX.out) hc1 hb1).mono ?_
      rintro e X ⟨v, rfl, hR, hb⟩
      refine ⟨_, rfl, ?_⟩
      obtain ⟨B1, d1, rfl⟩ := Kd.R_slice hR
      (try replace R0 := AsZ.mk (Kd.R_below R0.out hb))
      (try replace R1 := AsZ.mk (Kd.R_below R1.out hb))
      replace KP := AsZ.mk (bBl KP.out hb)
      replace KM := AsZ.mk (bBl KM.out hb)
      replace KR := AsZ.mk (bBl KR.out hb)
      have R1 := AsZ.mk (Kd.R_lower hR HX.out.size)
      replace HX := AsZ.mk (tBl HX.out hb)
      clear hb hR
      refine hK.out _ _ ?_ (fun hHeld => ?_)
      · trivial
      clear hK K
      try simp only [Act.put, List.setIfInBounds_toArray, List.set_cons_zero, List.set_cons_succ]
      refine wpAnyH_ready (rs := [7]) (by kernel_rfl) (by simp) ?_
      refine AllReadyH.cons (o := { dst := none, op := Go.Op.store 22 (Go.Operand.tmp 13) (Go.Operand.tmp 9), type := 0, pos := "plan.go:37", after := #[{ on := 6, ground := Go.Ground.data }, { on := 2, ground := Go.Ground.data }, { on := 5, ground := Go.Ground.chain }, { on := 0, ground := Go.Ground.phase }, { on := 1, ground := Go.Ground.phase }, { on := 2, ground := Go.Ground.phase }, { on := 3, ground := Go.Ground.phase }, { on := 4, ground := Go.Ground.phase }, { on := 5, ground := Go.Ground.textOnly Go.Departure.lateStoresUnsure }], guard := none }) rfl (fun K hK => ?_) AllReadyH.nil
      have hp_ := (bCe KP.out 0).trans (show _ = some (.slice A0 l0.length c0) from rfl)
      have hf_ := bFz KP.out 0
      go_simp
      clear hp_ hf_
      replace R0 := AsZ.mk (Kd.R_set R0.out KP.out (by decide) 0 (.slice B0 l0.length d0))
      replace R1 := AsZ.mk (Kd.R_set R1.out KP.out (by decide) 0 (.slice B0 l0.length d0))
      replace KM := AsZ.mk ((Below.heap_setCell _ ⟨w.heap.size, 0, none⟩ (.slice B0 l0.length d0) (w.heap.size + 1) (by show w.heap.size + 1 ≠ w.heap.size; omega)).trans KM.out)
      replace KR := AsZ.mk ((Below.heap_setCell _ ⟨w.heap.size, 0, none⟩ (.slice B0 l0.length d0) (w.heap.size + 1 + 1) (by show w.heap.size + 1 + 1 ≠ w.heap.size; omega)).trans KR.out)
      replace HX := AsZ.mk (HX.out.setCell (p := ⟨w.heap.size, 0, none⟩) (Nat.le_refl _) (.slice B0 l0.length d0))
      replace KP := AsZ.mk (blk_set KP.out 0 (.slice B0 l0.length d0))
      refine hK.out _ _ ?_ (fun hHeld => ?_)
      · trivial
      clear hK K
      try simp only [Act.put, List.setIfInBounds_toArray, List.set_cons_zero, List.set_cons_succ]
      refine wpAnyH_take (i := 8) (oi := { dst := some 14, op := Go.Op.fieldAddr 60 (Go.Operand.tmp 3) 1, type := 0, pos := "plan.go:37", after := #[{ on := 0, ground := Go.Ground.phase }, { on := 1, ground := Go.Ground.phase }, { on := 2, ground := Go.Ground.phase }, { on := 3, ground := Go.Ground.phase }, { on := 4, ground := Go.Ground.phase }, { on := 5, ground := Go.Ground.phase }, { on := 6, ground := Go.Ground.phase }, { on := 7, ground := Go.Ground.phase }], guard := none }) (v := ?_) rfl (by kernel_rfl) (by kernel_rfl) (by kernel_rfl) (fun _ _ _ h => h) (Or.inl ⟨by kernel_rfl, ?_⟩) (by assumption) ?_
      rotate_left
      · intro W hSw; go_simp; first | done | with_reducible rfl
      try simp only [Act.put, List.setIfInBounds_toArray, List.set_cons_zero, List.set_cons_succ]
      refine wpAnyH_ready (rs := [9]) (by kernel_rfl) (by simp) ?_
      refine AllReadyH.cons (o := { dst := none, op := Go.Op.store 40 (Go.Operand.tmp 14) (Go.Operand.tmp 12), type := 0, pos := "plan.go:37", after := #[{ on := 8, ground := Go.Ground.data }, { on := 5, ground := Go.Ground.data }, { on := 7, ground := Go.Ground.chain }, { on := 0, ground := Go.Ground.phase }, { on := 1, ground := Go.Ground.phase }, { on := 2, ground := Go.Ground.phase }, { on := 3, ground := Go.Ground.phase }, { on := 4, ground := Go.Ground.phase }, { on := 5, ground := Go.Ground.phase }, { on := 6, ground := Go.Ground.phase }, { on := 7, ground := Go.Ground.phase }], guard := none }) rfl (fun K hK => ?_) AllReadyH.nil
      have hp_ := (bCe KP.out 1).trans (show _ = some (.slice A1 l1.length c1) from rfl)
      have hf_ := bFz KP.out 1
      go_simp
      clear hp_ hf_
      replace R0 := AsZ.mk (Kd.R_set R0.out KP.out (by decide) 1 (.slice B1 l1.length d1))
      replace R1 := AsZ.mk (Kd.R_set R1.out KP.out (by decide) 1 (.slice B1 l1.length d1))
      replace KM := AsZ.mk ((Below.heap_setCell _ ⟨w.heap.size, 1, none⟩ (.slice B1 l1.length d1) (w.heap.size + 1) (by show w.heap.size + 1 ≠ w.heap.size; omega)).trans KM.out)
      replace KR := AsZ.mk ((Below.heap_setCell _ ⟨w.heap.size, 1, none⟩ (.slice B1 l1.length d1) (w.heap.size + 1 + 1) (by show w.heap.size + 1 + 1 ≠ w.heap.size; omega)).trans KR.out)
      replace HX := AsZ.mk (HX.out.setCell (p := ⟨w.heap.size, 1, none⟩) (Nat.le_refl _) (.slice B1 l1.length d1))
      replace KP := AsZ.mk (blk_set KP.out 1 (.slice B1 l1.length d1))
      refine hK.out _ _ ?_ (fun hHeld => ?_)
      · trivial
      clear hK K
      try simp only [Act.put, List.setIfInBounds_toArray, List.set_cons_zero, List.set_cons_succ]
      refine wpAnyH_done (by kernel_rfl) ?_ _
      try simp only [Act.put, List.setIfInBounds_toArray, List.set_cons_zero, List.set_cons_succ, List.getElem_toArray, List.getElem_cons_zero, List.getElem_cons_succ]
      refine NoPanic.normal ?_
      (try dsimp only [Exit.then])
      exact hEnd.out _ B0 B1 d0 d1 HX.out R0.out R1.out KP.out KM.out KR.out
  · have hp0 := (bCe KP.out 0).trans rfl
    have hp1 := (bCe KP.out 1).trans rfl
    simp only [List.getElem?_toArray, List.getElem?_cons_zero, List.getElem?_cons_succ] at hp0 hp1
    go_simp
    clear hp0 hp1
    refine hK.out _ _ ?_ (fun hHeld => ?_)
    · trivial
    clear hK K
    try simp only [Act.put, List.setIfInBounds_toArray, List.set_cons_zero, List.set_cons_succ]
    refine wpAnyH_ready (rs := [1]) (by kernel_rfl) (by simp) ?_
    refine AllReadyH.cons (o := { dst := some 8, op := Go.Op.load 22 (Go.Operand.tmp 7), type := 22, pos := "plan.go:37", after := #[{ on := 0, ground := Go.Ground.data }], guard := none }) rfl (fun K hK => ?_) AllReadyH.nil
    have hp0 := (bCe KP.out 0).trans rfl
    have hp1 := (bCe KP.out 1).trans rfl
    simp only [List.getElem?_toArray, List.getElem?_cons_zero, List.getElem?_cons_succ] at hp0 hp1
    go_simp
    clear hp0 hp1
    refine hK.out _ _ ?_ (fun hHeld => ?_)
    · trivial
    clear hK K
    try simp only [Act.put, List.setIfInBounds_toArray, List.set_cons_zero, List.set_cons_succ]
    refine wpAnyH_ready (rs := [2]) (by kernel_rfl) (by simp) ?_
    refine AllReadyH.cons (o := { dst := some 9, op := Go.Op.call { callee := Go.Callee.value (Go.Operand.func 58), args := #[Go.Operand.tmp 8], argTypes := #[22] }, type := 22, pos := "plan.go:37", after := #[{ on := 1, ground := Go.Ground.data }], guard := none }) rfl (fun K hK => ?_) AllReadyH.nil
    refine goes_ (N := some 9) («as» := #[.tmp 8]) Tryd.func58 (by kernel_rfl) rfl #[.slice A0 l0.length c0] (by kernel_rfl) rfl rfl (by kernel_rfl) ?_
    with_reducible refine (cloneI_calls A0 c0 l0 _ (Kd.C_below H0.out HX.out) hb0).mono ?_
    rintro e X ⟨v, rfl, hR, hb⟩
    refine ⟨_, rfl, ?_⟩
    obtain ⟨B0, d0, rfl⟩ := Kd.R_slice hR
    (try replace R0 := AsZ.mk (Kd.R_below R0.out hb))
    (try replace R1 := AsZ.mk (Kd.R_below R1.out hb))
    replace KP := AsZ.mk (bBl KP.out hb)
    replace KM := AsZ.mk (bBl KM.out hb)
    replace KR := AsZ.mk (bBl KR.out hb)
    have R0 := AsZ.mk (Kd.R_lower hR HX.out.size)
    replace HX := AsZ.mk (tBl HX.out hb)
    clear hb hR
    refine hK.out _ _ ?_ (fun hHeld => ?_)
    · trivial
    clear hK K
    try simp only [Act.put, List.setIfInBounds_toArray, List.set_cons_zero, List.set_cons_succ]
    refine wpAnyH_take (i := 6) (oi := { dst := some 13, op := Go.Op.fieldAddr 60 (Go.Operand.tmp 3) 0, type := 0, pos := "plan.go:37", after := #[{ on := 0, ground := Go.Ground.phase }, { on := 1, ground := Go.Ground.phase }, { on := 2, ground := Go.Ground.phase }, { on := 3, ground := Go.Ground.phase }, { on := 4, ground := Go.Ground.phase }, { on := 5, ground := Go.Ground.textOnly Go.Departure.lateStoresUnsure }], guard := none }) (v := ?_) rfl (by kernel_rfl) (by kernel_rfl) (by kernel_rfl) (fun _ _ _ h => h) (Or.inl ⟨by kernel_rfl, ?_⟩) (by assumption) ?_
    rotate_left
    · intro W hSw; go_simp; first | done | with_reducible rfl
    try simp only [Act.put, List.setIfInBounds_toArray, List.set_cons_zero, List.set_cons_succ]
    refine wpAnyH_ready (rs := [5]) (by kernel_rfl) (by simp) ?_
    refine AllReadyH.cons (o := { dst := some 12, op := Go.Op.call { callee := Go.Callee.value (Go.Operand.func 48), args := #[Go.Operand.tmp 11], argTypes := #[40] }, type := 40, pos := "plan.go:37", after := #[{ on := 4, ground := Go.Ground.data }, { on := 2, ground := Go.Ground.chain }], guard := none }) rfl (fun K hK => ?_) AllReadyH.nil
    refine goes_ (N := some 12) («as» := #[.tmp 11]) Tryd.func48 (by kernel_rfl) rfl #[.slice A1 l1.length c1] (by kernel_rfl) rfl rfl (by kernel_rfl) ?_
    with_reducible refine (clone_calls A1 c1 l1 _ (Kd.C_below H1.out HX.out) hc1 hb1).mono ?_
    rintro e X ⟨v, rfl, hR, hb⟩
    refine ⟨_, rfl, ?_⟩
    obtain ⟨B1, d1, rfl⟩ := Kd.R_slice hR
    (try replace R0 := AsZ.mk (Kd.R_below R0.out hb))
    (try replace R1 := AsZ.mk (Kd.R_below R1.out hb))
    replace KP := AsZ.mk (bBl KP.out hb)
    replace KM := AsZ.mk (bBl KM.out hb)
    replace KR := AsZ.mk (bBl KR.out hb)
    have R1 := AsZ.mk (Kd.R_lower hR HX.out.size)
    replace HX := AsZ.mk (tBl HX.out hb)
    clear hb hR
    refine hK.out _ _ ?_ (fun hHeld => ?_)
    · trivial
    clear hK K
    try simp only [Act.put, List.setIfInBounds_toArray, List.set_cons_zero, List.set_cons_succ]
    refine wpAnyH_ready (rs := [7]) (by kernel_rfl) (by simp) ?_
    refine AllReadyH.cons (o := { dst := none, op := Go.Op.store 22 (Go.Operand.tmp 13) (Go.Operand.tmp 9), type := 0, pos := "plan.go:37", after := #[{ on := 6, ground := Go.Ground.data }, { on := 2, ground := Go.Ground.data }, { on := 5, ground := Go.Ground.chain }, { on := 0, ground := Go.Ground.phase }, { on := 1, ground := Go.Ground.phase }, { on := 2, ground := Go.Ground.phase }, { on := 3, ground := Go.Ground.phase }, { on := 4, ground := Go.Ground.phase }, { on := 5, ground := Go.Ground.textOnly Go.Departure.lateStoresUnsure }], guard := none }) rfl (fun K hK => ?_) AllReadyH.nil
    have hp_ := (bCe KP.out 0).trans (show _ = some (.slice A0 l0.length c0) from rfl)
    have hf_ := bFz KP.out 0
    go_simp
    clear hp_ hf_
    replace R0 := AsZ.mk (Kd.R_set R0.out KP.out (by decide) 0 (.slice B0 l0.length d0))
    replace R1 := AsZ.mk (Kd.R_set R1.out KP.out (by decide) 0 (.slice B0 l0.length d0))
    replace KM := AsZ.mk ((Below.heap_setCell _ ⟨w.heap.size, 0, none⟩ (.slice B0 l0.length d0) (w.heap.size + 1) (by show w.heap.size + 1 ≠ w.heap.size; omega)).trans KM.out)
    replace KR := AsZ.mk ((Below.heap_setCell _ ⟨w.heap.size, 0, none⟩ (.slice B0 l0.length d0) (w.heap.size + 1 + 1) (by show w.heap.size + 1 + 1 ≠ w.heap.size; omega)).trans KR.out)
    replace HX := AsZ.mk (HX.out.setCell (p := ⟨w.heap.size, 0, none⟩) (Nat.le_refl _) (.slice B0 l0.length d0))
    replace KP := AsZ.mk (blk_set KP.out 0 (.slice B0 l0.length d0))
    refine hK.out _ _ ?_ (fun hHeld => ?_)
    · trivial
    clear hK K
    try simp only [Act.put, List.setIfInBounds_toArray, List.set_cons_zero, List.set_cons_succ]
    refine wpAnyH_take (i := 8) (oi := { dst := some 14, op := Go.Op.fieldAddr 60 (Go.Operand.tmp 3) 1, type := 0, pos := "plan.go:37", after := #[{ on := 0, ground := Go.Ground.phase }, { on := 1, ground := Go.Ground.phase }, { on := 2, ground := Go.Ground.phase }, { on := 3, ground := Go.Ground.phase }, { on := 4, ground := Go.Ground.phase }, { on := 5, ground := Go.Ground.phase }, { on := 6, ground := Go.Ground.phase }, { on := 7, ground := Go.Ground.phase }], guard := none }) (v := ?_) rfl (by kernel_rfl) (by kernel_rfl) (by kernel_rfl) (fun _ _ _ h => h) (Or.inl ⟨by kernel_rfl, ?_⟩) (by assumption) ?_
    rotate_left
    · intro W hSw; go_simp; first | done | with_reducible rfl
    try simp only [Act.put, List.setIfInBounds_toArray, List.set_cons_zero, List.set_cons_succ]
    refine wpAnyH_ready (rs := [9]) (by kernel_rfl) (by simp) ?_
    refine AllReadyH.cons (o := { dst := none, op := Go.Op.store 40 (Go.Operand.tmp 14) (Go.Operand.tmp 12), type := 0, pos := "plan.go:37", after := #[{ on := 8, ground := Go.Ground.data }, { on := 5, ground := Go.Ground.data }, { on := 7, ground := Go.Ground.chain }, { on := 0, ground := Go.Ground.phase }, { on := 1, ground := Go.Ground.phase }, { on := 2, ground := Go.Ground.phase }, { on := 3, ground := Go.Ground.phase }, { on := 4, ground := Go.Ground.phase }, { on := 5, ground := Go.Ground.phase }, { on := 6, ground := Go.Ground.phase }, { on := 7, ground := Go.Ground.phase }], guard := none }) rfl (fun K hK => ?_) AllReadyH.nil
    have hp_ := (bCe KP.out 1).trans (show _ = some (.slice A1 l1.length c1) from rfl)
    have hf_ := bFz KP.out 1
    go_simp
    clear hp_ hf_
    replace R0 := AsZ.mk (Kd.R_set R0.out KP.out (by decide) 1 (.slice B1 l1.length d1))
    replace R1 := AsZ.mk (Kd.R_set R1.out KP.out (by decide) 1 (.slice B1 l1.length d1))
    replace KM := AsZ.mk ((Below.heap_setCell _ ⟨w.heap.size, 1, none⟩ (.slice B1 l1.length d1) (w.heap.size + 1) (by show w.heap.size + 1 ≠ w.heap.size; omega)).trans KM.out)
    replace KR := AsZ.mk ((Below.heap_setCell _ ⟨w.heap.size, 1, none⟩ (.slice B1 l1.length d1) (w.heap.size + 1 + 1) (by show w.heap.size + 1 + 1 ≠ w.heap.size; omega)).trans KR.out)
    replace HX := AsZ.mk (HX.out.setCell (p := ⟨w.heap.size, 1, none⟩) (Nat.le_refl _) (.slice B1 l1.length d1))
    replace KP := AsZ.mk (blk_set KP.out 1 (.slice B1 l1.length d1))
    refine hK.out _ _ ?_ (fun hHeld => ?_)
    · trivial
    clear hK K
    try simp only [Act.put, List.setIfInBounds_toArray, List.set_cons_zero, List.set_cons_succ]
    refine wpAnyH_done (by kernel_rfl) ?_ _
    try simp only [Act.put, List.setIfInBounds_toArray, List.set_cons_zero, List.set_cons_succ, List.getElem_toArray, List.getElem_cons_zero, List.getElem_cons_succ]
    refine NoPanic.normal ?_
    (try dsimp only [Exit.then])
    exact hEnd.out _ B0 B1 d0 d1 HX.out R0.out R1.out KP.out KM.out KR.out
end Go.Proofs.YtcnlmpjoghogbaaDoor.Ag
namespace Go.Proofs.YtcnlmpjoghogbaaDoor.PAll
open Go.RowKit Go.Proofs.YtcnlmpjoghogbaaDoor.Xw Go.Proofs.YtcnlmpjoghogbaaDoorW.PrintWords Go.Proofs.YtcnlmpjoghogbaaDoorW.PrintLast Go.Proofs.YtcnlmpjoghogbaaDoorW.PrintMore
attribute [local go_sem] max2_int min2_int max_two min_two max_three min_three max_four min_four   -- for this text's walks alone
set_option linter.unusedVariables false
set_option linter.unusedSimpArgs false
def spenceref04_Right.f (a0_0 : Int) (a0_1 : Int) : Option (Bool) := if a0_0 ≥ 0 then (if a0_1 > a0_0 then (some (decide (a0_1 ≤ 4611686018427387903))) else (some false)) else (some false)
set_option maxHeartbeats 8000000 in
set_option maxRecDepth 100000 in
theorem spenceref04_Right.calls (a0_0 : Int) (a0_1 : Int) (r : Bool) (w : World) (h : spenceref04_Right.f a0_0 a0_1 = some r) :
    Calls Tryd.prog 68 #[.agg #[.int .i64 a0_0, .int .i64 a0_1]] w fun e w' => e = .returned (.bool r) ∧ Below w.heap.size w w' := by
  have hu53 := Tryd.underlying53
  have HB := AsZ.mk (Below.refl w.heap.size w)
  have H : (if a0_0 ≥ 0 then (if a0_1 > a0_0 then (some (decide (a0_1 ≤ 4611686018427387903))) else (some false)) else (some false)) = some r := h
  clear h
  by_cases c2 : a0_0 ≥ 0
  · rw [if_pos c2] at H
    have c2b0 : decide (0 ≤ a0_0) = true := decide_eq_true c2
    clear c2
    by_cases c3 : a0_1 > a0_0
    · rw [if_pos c3] at H
      have c3b0 : decide (a0_0 < a0_1) = true := decide_eq_true c3
      clear c3
      obtain rfl := Option.some.inj H
      go_enter Tryd.func68, Tryd.ntmps68
      go_wp2_with (first | ((with_reducible refine gDs (N := 1) rfl ?_); refine bEv ?hg (N := 1) ?hd (cs := #[.int .i64 a0_0, .int .i64 a0_1]) (t := 53) ?hr ?_; (case hd => rfl); (case hg => rfl); (case hr => first | (go_simp; done) | (go_simp; rfl)); intro gb403 hg w4 hbox hb; have n0_ := AsZ.mk (tBl (by repeat (first | (with_reducible first | exact HB.out | apply aBl | apply pBd | apply dBl) | exact HB.out)) hb); have n1_ := AsZ.mk (hbox); have n2_ := AsZ.mk ((by rw [hg]; exact (zBl (by repeat (first | (with_reducible first | exact HB.out | apply aBl | apply pBd | apply dBl) | exact HB.out))) : w.heap.size ≤ gb403)); have n3_ := AsZ.mk ((by rw [hg]; exact (zBl (by repeat (first | (with_reducible first | exact HB.out | apply aBl | apply pBd | apply dBl) | exact HB.out))) : w.heap.size ≤ gb403)); clear HB; have HB := n0_; have BK403 := n1_; have GW403 := n2_; have GE403 := n3_; clear n0_ n1_ n2_ n3_; clear hb hbox hg; obtain ⟨hcz5_0, hcz5_1⟩ := celN2 BK403.out; obtain ⟨hfz5_0, hfz5_1⟩ := fzN2 BK403.out))
      go_ret
      exact ⟨by first | rfl | exact nEm _ | exact eEm _ | (simp [eWn, eWs] <;> rfl) | (simp [*, eWn, eWs] <;> rfl), by repeat (first | (with_reducible first | exact HB.out | apply aBl | apply pBd | apply dBl | refine sBl ?_ GE403.out) | exact HB.out)⟩
    · rw [if_neg c3] at H
      have c3b0 : decide (a0_0 < a0_1) = false := decide_eq_false c3
      clear c3
      obtain rfl := Option.some.inj H
      go_enter Tryd.func68, Tryd.ntmps68
      go_wp2_with (first | ((with_reducible refine gDs (N := 1) rfl ?_); refine bEv ?hg (N := 1) ?hd (cs := #[.int .i64 a0_0, .int .i64 a0_1]) (t := 53) ?hr ?_; (case hd => rfl); (case hg => rfl); (case hr => first | (go_simp; done) | (go_simp; rfl)); intro gb403 hg w6 hbox hb; have n0_ := AsZ.mk (tBl (by repeat (first | (with_reducible first | exact HB.out | apply aBl | apply pBd | apply dBl) | exact HB.out)) hb); have n1_ := AsZ.mk (hbox); have n2_ := AsZ.mk ((by rw [hg]; exact (zBl (by repeat (first | (with_reducible first | exact HB.out | apply aBl | apply pBd | apply dBl) | exact HB.out))) : w.heap.size ≤ gb403)); have n3_ := AsZ.mk ((by rw [hg]; exact (zBl (by repeat (first | (with_reducible first | exact HB.out | apply aBl | apply pBd | apply dBl) | exact HB.out))) : w.heap.size ≤ gb403)); clear HB; have HB := n0_; have BK403 := n1_; have GW403 := n2_; have GE403 := n3_; clear n0_ n1_ n2_ n3_; clear hb hbox hg; obtain ⟨hcz7_0, hcz7_1⟩ := celN2 BK403.out; obtain ⟨hfz7_0, hfz7_1⟩ := fzN2 BK403.out))
      go_ret
      exact ⟨by first | rfl | exact nEm _ | exact eEm _ | (simp [eWn, eWs] <;> rfl) | (simp [*, eWn, eWs] <;> rfl), by repeat (first | (with_reducible first | exact HB.out | apply aBl | apply pBd | apply dBl | refine sBl ?_ GE403.out) | exact HB.out)⟩
  · rw [if_neg c2] at H
    have c2b0 : decide (0 ≤ a0_0) = false := decide_eq_false c2
    clear c2
    obtain rfl := Option.some.inj H
    go_enter Tryd.func68, Tryd.ntmps68
    go_wp2_with (first | ((with_reducible refine gDs (N := 1) rfl ?_); refine bEv ?hg (N := 1) ?hd (cs := #[.int .i64 a0_0, .int .i64 a0_1]) (t := 53) ?hr ?_; (case hd => rfl); (case hg => rfl); (case hr => first | (go_simp; done) | (go_simp; rfl)); intro gb403 hg w8 hbox hb; have n0_ := AsZ.mk (tBl (by repeat (first | (with_reducible first | exact HB.out | apply aBl | apply pBd | apply dBl) | exact HB.out)) hb); have n1_ := AsZ.mk (hbox); have n2_ := AsZ.mk ((by rw [hg]; exact (zBl (by repeat (first | (with_reducible first | exact HB.out | apply aBl | apply pBd | apply dBl) | exact HB.out))) : w.heap.size ≤ gb403)); have n3_ := AsZ.mk ((by rw [hg]; exact (zBl (by repeat (first | (with_reducible first | exact HB.out | apply aBl | apply pBd | apply dBl) | exact HB.out))) : w.heap.size ≤ gb403)); clear HB; have HB := n0_; have BK403 := n1_; have GW403 := n2_; have GE403 := n3_; clear n0_ n1_ n2_ n3_; clear hb hbox hg; obtain ⟨hcz9_0, hcz9_1⟩ := celN2 BK403.out; obtain ⟨hfz9_0, hfz9_1⟩ := fzN2 BK403.out))
    go_ret
    exact ⟨by first | rfl | exact nEm _ | exact eEm _ | (simp [eWn, eWs] <;> rfl) | (simp [*, eWn, eWs] <;> rfl), by repeat (first | (with_reducible first | exact HB.out | apply aBl | apply pBd | apply dBl | refine sBl ?_ GE403.out) | exact HB.out)⟩
mutual
def spenceref04_Meet.j0 : Nat → Bool → Int → Int → Int → Int → Option (Int × Int)
  | 0, _, _, _, _, _ => none
  | k + 1, x12, x405000, x405001, x406000, x406001 => if x12 = true then (some (0, 0)) else (if x406000 > x405000 then (spenceref04_Meet.j1 k x406000 x405001 x406000 x406001) else (spenceref04_Meet.j1 k x405000 x405001 x406000 x406001))
def spenceref04_Meet.j1 : Nat → Int → Int → Int → Int → Option (Int × Int)
  | 0, _, _, _, _ => none
  | k + 1, x405000, x405001, x406000, x406001 => if x406001 < x405001 then (if x405000 ≥ x406001 then (some (0, 0)) else (some (x405000, x406001))) else (if x405000 ≥ x405001 then (some (0, 0)) else (some (x405000, x405001)))
end
def spenceref04_Meet.f (k : Nat) (a0_0 : Int) (a0_1 : Int) (a1_0 : Int) (a1_1 : Int) : Option (Int × Int) := (spenceref04_Right.f a0_0 a0_1).bind fun t407 => (if t407 = true then ((spenceref04_Right.f a1_0 a1_1).bind fun t408 => (spenceref04_Meet.j0 k (!t408) a0_0 a0_1 a1_0 a1_1)) else (spenceref04_Meet.j0 k true a0_0 a0_1 a1_0 a1_1))
theorem spenceref04_Meet.mono_l : ∀ k, (∀ y0 y1 y2 y3 y4, LeO (spenceref04_Meet.j0 k y0 y1 y2 y3 y4) (spenceref04_Meet.j0 (k + 1) y0 y1 y2 y3 y4)) ∧ (∀ y0 y1 y2 y3, LeO (spenceref04_Meet.j1 k y0 y1 y2 y3) (spenceref04_Meet.j1 (k + 1) y0 y1 y2 y3))
  | 0 => ⟨fun _ _ _ _ _ r h => by simp [spenceref04_Meet.j0] at h, fun _ _ _ _ r h => by simp [spenceref04_Meet.j1] at h⟩
  | k + 1 => by
    obtain ⟨ih0, ih1⟩ := spenceref04_Meet.mono_l k
    refine ⟨?_, ?_⟩
    · intro y0 y1 y2 y3 y4
      unfold spenceref04_Meet.j0
      repeat' first
      | (with_reducible exact ih0 _ _ _ _ _)
      | (with_reducible exact ih1 _ _ _ _)
      | (with_reducible exact LeO.refl _)
      | (with_reducible exact LeO.none _)
      | (with_reducible refine LeO.ite ?_ ?_)
      | (with_reducible refine LeO.bind ?_ (fun _ => ?_))
      | exact ih0 _ _ _ _ _
      | exact ih1 _ _ _ _
      | exact LeO.none _
      | refine LeO.ite ?_ ?_
      | refine LeO.bind ?_ (fun _ => ?_)
    · intro y0 y1 y2 y3
      unfold spenceref04_Meet.j1
      repeat' first
      | (with_reducible exact ih0 _ _ _ _ _)
      | (with_reducible exact ih1 _ _ _ _)
      | (with_reducible exact LeO.refl _)
      | (with_reducible exact LeO.none _)
      | (with_reducible refine LeO.ite ?_ ?_)
      | (with_reducible refine LeO.bind ?_ (fun _ => ?_))
      | exact ih0 _ _ _ _ _
      | exact ih1 _ _ _ _
      | exact LeO.none _
      | refine LeO.ite ?_ ?_
      | refine LeO.bind ?_ (fun _ => ?_)
theorem spenceref04_Meet.mono : ∀ a0 a1 a2 a3 k, LeO (spenceref04_Meet.f k a0 a1 a2 a3) (spenceref04_Meet.f (k + 1) a0 a1 a2 a3) := by
  intro a0 a1 a2 a3 k
  obtain ⟨ih0, ih1⟩ := spenceref04_Meet.mono_l k
  unfold spenceref04_Meet.f
  repeat' first
      | (with_reducible exact ih0 _ _ _ _ _)
      | (with_reducible exact ih1 _ _ _ _)
      | (with_reducible exact LeO.refl _)
      | (with_reducible exact LeO.none _)
      | (with_reducible refine LeO.ite ?_ ?_)
      | (with_reducible refine LeO.bind ?_ (fun _ => ?_))
      | exact ih0 _ _ _ _ _
      | exact ih1 _ _ _ _
      | exact LeO.none _
      | refine LeO.ite ?_ ?_
      | refine LeO.bind ?_ (fun _ => ?_)
set_option maxHeartbeats 8000000 in
set_option maxRecDepth 100000 in
theorem spenceref04_Meet.calls (k : Nat) (a0_0 : Int) (a0_1 : Int) (a1_0 : Int) (a1_1 : Int) (r1 : Int) (r2 : Int) (w : World) (h : spenceref04_Meet.f k a0_0 a0_1 a1_0 a1_1 = some (r1, r2)) :
    Calls Tryd.prog 57 #[.agg #[.int .i64 a0_0, .int .i64 a0_1], .agg #[.int .i64 a1_0, .int .i64 a1_1]] w fun e w' => e = .returned (.agg #[.int .i64 r1, .int .i64 r2]) ∧ Below w.heap.size w w' := by
  have hu53 := Tryd.underlying53
  have HB := AsZ.mk (Below.refl w.heap.size w)
  have H : ((spenceref04_Right.f a0_0 a0_1).bind fun t407 => (if t407 = true then ((spenceref04_Right.f a1_0 a1_1).bind fun t408 => (spenceref04_Meet.j0 k (!t408) a0_0 a0_1 a1_0 a1_1)) else (spenceref04_Meet.j0 k true a0_0 a0_1 a1_0 a1_1))) = some (r1, r2) := h
  clear h
  have HC3 := AsZ.mk H
  clear H
  go_enter Tryd.func57, Tryd.ntmps57
  go_upto_region 1 with (first | ((with_reducible refine gDs (N := 2) rfl ?_); refine bEv ?hg (N := 2) ?hd (cs := #[.int .i64 a0_0, .int .i64 a0_1]) (t := 53) ?hr ?_; (case hd => rfl); (case hg => rfl); (case hr => first | (go_simp; done) | (go_simp; rfl)); intro gb404 hg w4 hbox hb; have n0_ := AsZ.mk (tBl (by repeat (first | (with_reducible first | exact HB.out | apply aBl | apply pBd | apply dBl) | exact HB.out)) hb); have n1_ := AsZ.mk (hbox); have n2_ := AsZ.mk ((by rw [hg]; exact (zBl (by repeat (first | (with_reducible first | exact HB.out | apply aBl | apply pBd | apply dBl) | exact HB.out))) : w.heap.size ≤ gb404)); have n3_ := AsZ.mk ((by rw [hg]; exact (zBl (by repeat (first | (with_reducible first | exact HB.out | apply aBl | apply pBd | apply dBl) | exact HB.out))) : w.heap.size ≤ gb404)); clear HB; have HB := n0_; have BK404 := n1_; have GW404 := n2_; have GE404 := n3_; clear n0_ n1_ n2_ n3_; clear hb hbox hg) | ((with_reducible refine gDs (N := 3) rfl ?_); refine bEv ?hg (N := 3) ?hd (cs := #[.int .i64 a1_0, .int .i64 a1_1]) (t := 53) ?hr ?_; (case hd => rfl); (case hg => rfl); (case hr => first | (go_simp; done) | (go_simp; rfl)); intro gb405 hg w5 hbox hb; have n0_ := AsZ.mk (bBl (g := gb404) (o := .cells #[.int .i64 a0_0, .int .i64 a0_1] 53 (0, 0)) (by (with_reducible repeat first | apply bDn | apply bDr | apply bAl); exact BK404.out) hb); have n1_ := AsZ.mk (tBl (by repeat (first | (with_reducible first | exact HB.out | apply aBl | apply pBd | apply dBl | refine sBl ?_ GE404.out) | exact HB.out)) hb); have n2_ := AsZ.mk (hbox); have n3_ := AsZ.mk ((by rw [hg]; exact (zBl (by repeat (first | (with_reducible first | exact HB.out | apply aBl | apply pBd | apply dBl | refine sBl ?_ GE404.out) | exact HB.out))) : w.heap.size ≤ gb405)); have n4_ := AsZ.mk ((by rw [hg]; exact (zBl (by repeat (first | (with_reducible first | exact HB.out | apply aBl | apply pBd | apply dBl | refine sBl ?_ GE404.out) | exact HB.out))) : w.heap.size ≤ gb405)); have n5_ := AsZ.mk ((by rw [hg]; exact Nat.ne_of_lt (bLt (g := gb404) (o := .cells #[.int .i64 a0_0, .int .i64 a0_1] 53 (0, 0)) (by (with_reducible repeat first | apply bDn | apply bDr | apply bAl); exact BK404.out)) : gb404 ≠ gb405)); have n6_ := AsZ.mk ((by rw [hg]; exact Nat.ne_of_gt (bLt (g := gb404) (o := .cells #[.int .i64 a0_0, .int .i64 a0_1] 53 (0, 0)) (by (with_reducible repeat first | apply bDn | apply bDr | apply bAl); exact BK404.out)) : gb405 ≠ gb404)); clear BK404; clear HB; have BK404 := n0_; have HB := n1_; have BK405 := n2_; have GW405 := n3_; have GE405 := n4_; have NB404_405 := n5_; have NB405_404 := n6_; clear n0_ n1_ n2_ n3_ n4_ n5_ n6_; clear hb hbox hg) | ((with_reducible refine gDs (N := 4) rfl ?_); refine bEv ?hg (N := 4) ?hd (cs := #[.int .i64 0, .int .i64 0]) (t := 53) ?hr ?_; (case hd => rfl); (case hg => rfl); (case hr => first | (go_simp; done) | (go_simp; rfl)); intro gb406 hg w6 hbox hb; have n0_ := AsZ.mk (bBl (g := gb404) (o := .cells #[.int .i64 a0_0, .int .i64 a0_1] 53 (0, 0)) (by (with_reducible repeat first | apply bDn | apply bDr | apply bAl); exact BK404.out) hb); have n1_ := AsZ.mk (bBl (g := gb405) (o := .cells #[.int .i64 a1_0, .int .i64 a1_1] 53 (0, 0)) (by (with_reducible repeat first | apply bDn | apply bDr | apply bAl); exact BK405.out) hb); have n2_ := AsZ.mk (tBl (by repeat (first | (with_reducible first | exact HB.out | apply aBl | apply pBd | apply dBl | refine sBl ?_ GE404.out | refine sBl ?_ GE405.out) | exact HB.out)) hb); have n3_ := AsZ.mk (hbox); have n4_ := AsZ.mk ((by rw [hg]; exact (zBl (by repeat (first | (with_reducible first | exact HB.out | apply aBl | apply pBd | apply dBl | refine sBl ?_ GE404.out | refine sBl ?_ GE405.out) | exact HB.out))) : w.heap.size ≤ gb406)); have n5_ := AsZ.mk ((by rw [hg]; exact (zBl (by repeat (first | (with_reducible first | exact HB.out | apply aBl | apply pBd | apply dBl | refine sBl ?_ GE404.out | refine sBl ?_ GE405.out) | exact HB.out))) : w.heap.size ≤ gb406)); have n6_ := AsZ.mk ((by rw [hg]; exact Nat.ne_of_lt (bLt (g := gb404) (o := .cells #[.int .i64 a0_0, .int .i64 a0_1] 53 (0, 0)) (by (with_reducible repeat first | apply bDn | apply bDr | apply bAl); exact BK404.out)) : gb404 ≠ gb406)); have n7_ := AsZ.mk ((by rw [hg]; exact Nat.ne_of_gt (bLt (g := gb404) (o := .cells #[.int .i64 a0_0, .int .i64 a0_1] 53 (0, 0)) (by (with_reducible repeat first | apply bDn | apply bDr | apply bAl); exact BK404.out)) : gb406 ≠ gb404)); have n8_ := AsZ.mk ((by rw [hg]; exact Nat.ne_of_lt (bLt (g := gb405) (o := .cells #[.int .i64 a1_0, .int .i64 a1_1] 53 (0, 0)) (by (with_reducible repeat first | apply bDn | apply bDr | apply bAl); exact BK405.out)) : gb405 ≠ gb406)); have n9_ := AsZ.mk ((by rw [hg]; exact Nat.ne_of_gt (bLt (g := gb405) (o := .cells #[.int .i64 a1_0, .int .i64 a1_1] 53 (0, 0)) (by (with_reducible repeat first | apply bDn | apply bDr | apply bAl); exact BK405.out)) : gb406 ≠ gb405)); clear BK404; clear BK405; clear HB; have BK404 := n0_; have BK405 := n1_; have HB := n2_; have BK406 := n3_; have GW406 := n4_; have GE406 := n5_; have NB404_406 := n6_; have NB406_404 := n7_; have NB405_406 := n8_; have NB406_405 := n9_; clear n0_ n1_ n2_ n3_ n4_ n5_ n6_ n7_ n8_ n9_; clear hb hbox hg))
  (try simp only [Act.put, List.setIfInBounds_toArray, List.set_cons_zero, List.set_cons_succ])
  go_cut [12] (fun v12 wc => ∃ (kq : Nat) (x12_2 : Bool), v12 = .bool x12_2 ∧ AsZ (spenceref04_Meet.j0 kq x12_2 a0_0 a0_1 a1_0 a1_1 = some (r1, r2)) ∧ AsZ (kq ≤ k) ∧ AsZ (wc.heap[gb404]? = some (.cells #[.int .i64 a0_0, .int .i64 a0_1] 53 (0, 0))) ∧ AsZ (wc.heap[gb405]? = some (.cells #[.int .i64 a1_0, .int .i64 a1_1] 53 (0, 0))) ∧ AsZ (wc.heap[gb406]? = some (.cells #[.int .i64 0, .int .i64 0] 53 (0, 0))) ∧ AsZ (Below w.heap.size w wc))
  case first =>
    have H := HC3.out
    clear HC3
    replace H := Option.bind_eq_some_iff.mp H
    obtain ⟨t407, A70, H⟩ := H
    replace H : (if t407 = true then ((spenceref04_Right.f a1_0 a1_1).bind fun t408 => (spenceref04_Meet.j0 k (!t408) a0_0 a0_1 a1_0 a1_1)) else (spenceref04_Meet.j0 k true a0_0 a0_1 a1_0 a1_1)) = some (r1, r2) := H
    have A7 := AsZ.mk A70
    clear A70
    by_cases c8 : t407 = true
    · subst c8
      have H1 : ((spenceref04_Right.f a1_0 a1_1).bind fun t408 => (spenceref04_Meet.j0 k (!t408) a0_0 a0_1 a1_0 a1_1)) = some (r1, r2) := by rw [if_pos rfl] at H; exact H
      clear H
      have H := H1
      clear H1
      replace H := Option.bind_eq_some_iff.mp H
      obtain ⟨t408, A90, H⟩ := H
      replace H : (spenceref04_Meet.j0 k (!t408) a0_0 a0_1 a1_0 a1_1) = some (r1, r2) := H
      have A9 := AsZ.mk A90
      clear A90
      have H' := AsZ.mk H
      clear H
      have hnb10 := NB404_405.out
      have hnc10 := NB405_404.out
      have hnb11 := NB404_406.out
      have hnc11 := NB406_404.out
      obtain ⟨hcz12_0, hcz12_1⟩ := celN2 BK404.out
      obtain ⟨hfz12_0, hfz12_1⟩ := fzN2 BK404.out
      go_wp2_with (first | ((with_reducible refine gCa (f := 68) rfl ?_); refine gLl (some 6) rfl rfl Tryd.func68 (by kernel_rfl) rfl #[.agg #[.int .i64 a0_0, .int .i64 a0_1]] rfl (by (try simp only [List.map_toArray, List.map_cons, List.map_nil]); first | done | rfl | (simp only [List.length_drop, List.length_take]; rfl)) ?_; (with_reducible refine (spenceref04_Right.calls a0_0 a0_1 true _ A7.out).mono ?_); rintro e w13 ⟨rfl, hb⟩; refine ⟨_, rfl, ?_⟩; have n0_ := AsZ.mk (bBl (g := gb404) (o := .cells #[.int .i64 a0_0, .int .i64 a0_1] 53 (0, 0)) (by (with_reducible repeat first | apply bDn | apply bDr | apply bAl); exact BK404.out) hb); have n1_ := AsZ.mk (bBl (g := gb405) (o := .cells #[.int .i64 a1_0, .int .i64 a1_1] 53 (0, 0)) (by (with_reducible repeat first | apply bDn | apply bDr | apply bAl); exact BK405.out) hb); have n2_ := AsZ.mk (bBl (g := gb406) (o := .cells #[.int .i64 0, .int .i64 0] 53 (0, 0)) (by (with_reducible repeat first | apply bDn | apply bDr | apply bAl); exact BK406.out) hb); have n3_ := AsZ.mk (tBl (by repeat (first | (with_reducible first | exact HB.out | apply aBl | apply pBd | apply dBl | refine sBl ?_ GE404.out | refine sBl ?_ GE405.out | refine sBl ?_ GE406.out) | exact HB.out)) hb); clear BK404; clear BK405; clear BK406; clear HB; have BK404 := n0_; have BK405 := n1_; have BK406 := n2_; have HB := n3_; clear n0_ n1_ n2_ n3_; (try clear hb); (try clear hb2); (try clear hk); (try clear hi); have hnb14 := NB405_406.out; have hnc14 := NB406_405.out; obtain ⟨hcz15_0, hcz15_1⟩ := celN2 BK405.out; obtain ⟨hfz15_0, hfz15_1⟩ := fzN2 BK405.out) | (go_at_call 68; (with_reducible refine (spenceref04_Right.calls a1_0 a1_1 t408 _ A9.out).mono ?_); rintro e w16 ⟨rfl, hb⟩; have n0_ := AsZ.mk (bBl (g := gb404) (o := .cells #[.int .i64 a0_0, .int .i64 a0_1] 53 (0, 0)) (by (with_reducible repeat first | apply bDn | apply bDr | apply bAl); exact BK404.out) hb); have n1_ := AsZ.mk (bBl (g := gb405) (o := .cells #[.int .i64 a1_0, .int .i64 a1_1] 53 (0, 0)) (by (with_reducible repeat first | apply bDn | apply bDr | apply bAl); exact BK405.out) hb); have n2_ := AsZ.mk (bBl (g := gb406) (o := .cells #[.int .i64 0, .int .i64 0] 53 (0, 0)) (by (with_reducible repeat first | apply bDn | apply bDr | apply bAl); exact BK406.out) hb); have n3_ := AsZ.mk (tBl (by repeat (first | (with_reducible first | exact HB.out | apply aBl | apply pBd | apply dBl | refine sBl ?_ GE404.out | refine sBl ?_ GE405.out | refine sBl ?_ GE406.out) | exact HB.out)) hb); clear BK404; clear BK405; clear BK406; clear HB; have BK404 := n0_; have BK405 := n1_; have BK406 := n2_; have HB := n3_; clear n0_ n1_ n2_ n3_; (try clear hb); (try clear hb2); (try clear hk); (try clear hi)))
      go_meet
      case rel => exact ⟨_, (!t408), (by first | rfl | (simp; done) | (simp [*]; done)), H', ⟨by first | omega | exact Nat.le_refl _⟩, ⟨by (with_reducible repeat first | apply bDn | apply bDr | apply bAl); exact BK404.out⟩, ⟨by (with_reducible repeat first | apply bDn | apply bDr | apply bAl); exact BK405.out⟩, ⟨by (with_reducible repeat first | apply bDn | apply bDr | apply bAl); exact BK406.out⟩, ⟨by repeat (first | (with_reducible first | exact HB.out | apply aBl | apply pBd | apply dBl | refine sBl ?_ GE404.out | refine sBl ?_ GE405.out | refine sBl ?_ GE406.out) | exact HB.out)⟩⟩
    · replace c8 := Bool.eq_false_iff.mpr c8
      subst c8
      have H1 : (spenceref04_Meet.j0 k true a0_0 a0_1 a1_0 a1_1) = some (r1, r2) := by rw [if_neg (show ¬ (false = true) by decide)] at H; exact H
      clear H
      have H := H1
      clear H1
      have H' := AsZ.mk H
      clear H
      have hnb17 := NB404_405.out
      have hnc17 := NB405_404.out
      have hnb18 := NB404_406.out
      have hnc18 := NB406_404.out
      obtain ⟨hcz19_0, hcz19_1⟩ := celN2 BK404.out
      obtain ⟨hfz19_0, hfz19_1⟩ := fzN2 BK404.out
      go_wp2_with (first | ((with_reducible refine gCa (f := 68) rfl ?_); refine gLl (some 6) rfl rfl Tryd.func68 (by kernel_rfl) rfl #[.agg #[.int .i64 a0_0, .int .i64 a0_1]] rfl (by (try simp only [List.map_toArray, List.map_cons, List.map_nil]); first | done | rfl | (simp only [List.length_drop, List.length_take]; rfl)) ?_; (with_reducible refine (spenceref04_Right.calls a0_0 a0_1 false _ A7.out).mono ?_); rintro e w20 ⟨rfl, hb⟩; refine ⟨_, rfl, ?_⟩; have n0_ := AsZ.mk (bBl (g := gb404) (o := .cells #[.int .i64 a0_0, .int .i64 a0_1] 53 (0, 0)) (by (with_reducible repeat first | apply bDn | apply bDr | apply bAl); exact BK404.out) hb); have n1_ := AsZ.mk (bBl (g := gb405) (o := .cells #[.int .i64 a1_0, .int .i64 a1_1] 53 (0, 0)) (by (with_reducible repeat first | apply bDn | apply bDr | apply bAl); exact BK405.out) hb); have n2_ := AsZ.mk (bBl (g := gb406) (o := .cells #[.int .i64 0, .int .i64 0] 53 (0, 0)) (by (with_reducible repeat first | apply bDn | apply bDr | apply bAl); exact BK406.out) hb); have n3_ := AsZ.mk (tBl (by repeat (first | (with_reducible first | exact HB.out | apply aBl | apply pBd | apply dBl | refine sBl ?_ GE404.out | refine sBl ?_ GE405.out | refine sBl ?_ GE406.out) | exact HB.out)) hb); clear BK404; clear BK405; clear BK406; clear HB; have BK404 := n0_; have BK405 := n1_; have BK406 := n2_; have HB := n3_; clear n0_ n1_ n2_ n3_; (try clear hb); (try clear hb2); (try clear hk); (try clear hi)))
      go_meet
      case rel => exact ⟨_, (true), (by first | rfl | (simp; done) | (simp [*]; done)), H', ⟨by first | omega | exact Nat.le_refl _⟩, ⟨by (with_reducible repeat first | apply bDn | apply bDr | apply bAl); exact BK404.out⟩, ⟨by (with_reducible repeat first | apply bDn | apply bDr | apply bAl); exact BK405.out⟩, ⟨by (with_reducible repeat first | apply bDn | apply bDr | apply bAl); exact BK406.out⟩, ⟨by repeat (first | (with_reducible first | exact HB.out | apply aBl | apply pBd | apply dBl | refine sBl ?_ GE404.out | refine sBl ?_ GE405.out | refine sBl ?_ GE406.out) | exact HB.out)⟩⟩
  case rest =>
    clear HC3
    try clear c1
    try clear p2
    try clear c5
    try clear c6
    try clear c8
    try clear c10
    try clear c11
    try clear c14
    try clear c17
    try clear c18
    try clear hcz12_0
    try clear hcz12_1
    try clear hcz15_0
    try clear hcz15_1
    try clear hcz19_0
    try clear hcz19_1
    try clear hfz12_0
    try clear hfz12_1
    try clear hfz15_0
    try clear hfz15_1
    try clear hfz19_0
    try clear hfz19_1
    obtain ⟨kq, x12_2, rfl, HA, HJ2, BK404, BK405, BK406, HB⟩ := hcut
    cases kq with
    | zero => exact absurd HA.out (by simp [spenceref04_Meet.j0])
    | succ kj2 =>
      have H := HA.out
      clear HA
      simp only [spenceref04_Meet.j0] at H
      by_cases c21 : x12_2 = true
      · subst c21
        have H1 : (some (0, 0)) = some (r1, r2) := by rw [if_pos rfl] at H; exact H
        clear H
        have H := H1
        clear H1
        simp only [Option.some.injEq, Prod.mk.injEq] at H
        obtain ⟨rfl, rfl⟩ := H
        have hnb22 := NB406_404.out
        have hnc22 := NB404_406.out
        have hnb23 := NB406_405.out
        have hnc23 := NB405_406.out
        obtain ⟨hcz24_0, hcz24_1⟩ := celN2 BK406.out
        obtain ⟨hfz24_0, hfz24_1⟩ := fzN2 BK406.out
        go_wp2
        refine bodyPost_ret (results_cell_row rfl _ _ gb406 53 #[.int .i64 0, .int .i64 0] (0, 0) _ rfl (by (with_reducible repeat first | apply bDn | apply bDr | apply bAl); refine bPu (cs := #[.int .i64 0, .int .i64 0]) ?_ 1 _ rfl; (with_reducible repeat first | apply bDn | apply bDr | apply bAl); refine bPu (cs := #[.int .i64 0, .int .i64 0]) ?_ 0 _ rfl; (with_reducible repeat first | apply bDn | apply bDr | apply bAl); exact BK406.out) Tryd.underlying53 rfl (by kernel_rfl)) rfl ?_
        exact ⟨by first | rfl | exact nEm _ | exact eEm _ | (simp [eWn, eWs] <;> rfl) | (simp [*, eWn, eWs] <;> rfl), by repeat (first | (with_reducible first | exact HB.out | apply aBl | apply pBd | apply dBl | refine sBl ?_ GE404.out | refine sBl ?_ GE405.out | refine sBl ?_ GE406.out) | exact HB.out)⟩
      · replace c21 := Bool.eq_false_iff.mpr c21
        subst c21
        have H1 : (if a1_0 > a0_0 then (spenceref04_Meet.j1 kj2 a1_0 a0_1 a1_0 a1_1) else (spenceref04_Meet.j1 kj2 a0_0 a0_1 a1_0 a1_1)) = some (r1, r2) := by rw [if_neg (show ¬ (false = true) by decide)] at H; exact H
        clear H
        have H := H1
        clear H1
        have HC25 := AsZ.mk H
        clear H
        have hnb26 := NB405_404.out
        have hnc26 := NB404_405.out
        have hnb27 := NB405_406.out
        have hnc27 := NB406_405.out
        obtain ⟨hcz28_0, hcz28_1⟩ := celN2 BK405.out
        obtain ⟨hfz28_0, hfz28_1⟩ := fzN2 BK405.out
        have hnb29 := NB404_406.out
        have hnc29 := NB406_404.out
        obtain ⟨hcz30_0, hcz30_1⟩ := celN2 BK404.out
        obtain ⟨hfz30_0, hfz30_1⟩ := fzN2 BK404.out
        go_upto_if 18 with (fail)
        go_cut [] (fun wc => ∃ (kq : Nat) (x405000_24 : Int), AsZ (spenceref04_Meet.j1 kq x405000_24 a0_1 a1_0 a1_1 = some (r1, r2)) ∧ AsZ (kq ≤ kj2) ∧ AsZ (wc.heap[gb404]? = some (.cells #[.int .i64 x405000_24, .int .i64 a0_1] 53 (0, 0))) ∧ AsZ (wc.heap[gb405]? = some (.cells #[.int .i64 a1_0, .int .i64 a1_1] 53 (0, 0))) ∧ AsZ (wc.heap[gb406]? = some (.cells #[.int .i64 0, .int .i64 0] 53 (0, 0))) ∧ AsZ (Below w.heap.size w wc))
        case first =>
          have H := HC25.out
          clear HC25
          by_cases c31 : a1_0 > a0_0
          · rw [if_pos c31] at H
            have c31b0 : decide (a0_0 < a1_0) = true := decide_eq_true c31
            clear c31
            (first | rw [c31b0] | (simp only [i64_w, i32_w]; rw [c31b0]) | skip)
            have H' := AsZ.mk H
            clear H
            have hnb32 := NB405_404.out
            have hnc32 := NB404_405.out
            have hnb33 := NB405_406.out
            have hnc33 := NB406_405.out
            obtain ⟨hcz34_0, hcz34_1⟩ := celN2 BK405.out
            obtain ⟨hfz34_0, hfz34_1⟩ := fzN2 BK405.out
            have hnb35 := NB404_406.out
            have hnc35 := NB406_404.out
            obtain ⟨hcz36_0, hcz36_1⟩ := celN2 BK404.out
            obtain ⟨hfz36_0, hfz36_1⟩ := fzN2 BK404.out
            go_wp2
            go_meet
            case rel => exact ⟨_, (a1_0), H', ⟨by have := HJ2.out; first | omega | exact Nat.le_refl _⟩, ⟨by (with_reducible repeat first | apply bDn | apply bDr | apply bAl); refine bPu (cs := #[.int .i64 a0_0, .int .i64 a0_1]) ?_ 0 _ rfl; (with_reducible repeat first | apply bDn | apply bDr | apply bAl); exact BK404.out⟩, ⟨by (with_reducible repeat first | apply bDn | apply bDr | apply bAl); refine bFr ?_ NB405_404.out _; (with_reducible repeat first | apply bDn | apply bDr | apply bAl); exact BK405.out⟩, ⟨by (with_reducible repeat first | apply bDn | apply bDr | apply bAl); refine bFr ?_ NB406_404.out _; (with_reducible repeat first | apply bDn | apply bDr | apply bAl); exact BK406.out⟩, ⟨by repeat (first | (with_reducible first | exact HB.out | apply aBl | apply pBd | apply dBl | refine sBl ?_ GE404.out | refine sBl ?_ GE405.out | refine sBl ?_ GE406.out) | exact HB.out)⟩⟩
          · rw [if_neg c31] at H
            have c31b0 : decide (a0_0 < a1_0) = false := decide_eq_false c31
            clear c31
            (first | rw [c31b0] | (simp only [i64_w, i32_w]; rw [c31b0]) | skip)
            have H' := AsZ.mk H
            clear H
            go_wp2
            go_meet
            case rel => exact ⟨_, (a0_0), H', ⟨by have := HJ2.out; first | omega | exact Nat.le_refl _⟩, ⟨by (with_reducible repeat first | apply bDn | apply bDr | apply bAl); exact BK404.out⟩, ⟨by (with_reducible repeat first | apply bDn | apply bDr | apply bAl); exact BK405.out⟩, ⟨by (with_reducible repeat first | apply bDn | apply bDr | apply bAl); exact BK406.out⟩, ⟨by repeat (first | (with_reducible first | exact HB.out | apply aBl | apply pBd | apply dBl | refine sBl ?_ GE404.out | refine sBl ?_ GE405.out | refine sBl ?_ GE406.out) | exact HB.out)⟩⟩
        case rest =>
          clear HC25
          try clear c1
          try clear c2
          try clear p2
          try clear c3
          try clear c5
          try clear c6
          try clear c8
          try clear c10
          try clear c11
          try clear c14
          try clear c17
          try clear c18
          try clear c21
          try clear c22
          try clear c23
          try clear c26
          try clear c27
          try clear c29
          try clear c31
          try clear c31b0
          try clear c32
          try clear c33
          try clear c35
          try clear hcz12_0
          try clear hcz12_1
          try clear hcz15_0
          try clear hcz15_1
          try clear hcz19_0
          try clear hcz19_1
          try clear hcz24_0
          try clear hcz24_1
          try clear hcz28_0
          try clear hcz28_1
          try clear hcz30_0
          try clear hcz30_1
          try clear hcz34_0
          try clear hcz34_1
          try clear hcz36_0
          try clear hcz36_1
          try clear hfz12_0
          try clear hfz12_1
          try clear hfz15_0
          try clear hfz15_1
          try clear hfz19_0
          try clear hfz19_1
          try clear hfz24_0
          try clear hfz24_1
          try clear hfz28_0
          try clear hfz28_1
          try clear hfz30_0
          try clear hfz30_1
          try clear hfz34_0
          try clear hfz34_1
          try clear hfz36_0
          try clear hfz36_1
          try clear p2
          obtain ⟨kq, x405000_24, HA, HJ24, BK404, BK405, BK406, HB⟩ := hcut
          cases kq with
          | zero => exact absurd HA.out (by simp [spenceref04_Meet.j1])
          | succ kj24 =>
            have H := HA.out
            clear HA
            simp only [spenceref04_Meet.j1] at H
            by_cases c37 : a1_1 < a0_1
            · rw [if_pos c37] at H
              have c37b0 : decide (a1_1 < a0_1) = true := decide_eq_true c37
              clear c37
              by_cases c38 : x405000_24 ≥ a1_1
              · rw [if_pos c38] at H
                have c38b0 : decide (a1_1 ≤ x405000_24) = true := decide_eq_true c38
                clear c38
                simp only [Option.some.injEq, Prod.mk.injEq] at H
                obtain ⟨rfl, rfl⟩ := H
                have hnb39 := NB405_404.out
                have hnc39 := NB404_405.out
                have hnb40 := NB405_406.out
                have hnc40 := NB406_405.out
                obtain ⟨hcz41_0, hcz41_1⟩ := celN2 BK405.out
                obtain ⟨hfz41_0, hfz41_1⟩ := fzN2 BK405.out
                have hnb42 := NB404_406.out
                have hnc42 := NB406_404.out
                obtain ⟨hcz43_0, hcz43_1⟩ := celN2 BK404.out
                obtain ⟨hfz43_0, hfz43_1⟩ := fzN2 BK404.out
                obtain ⟨hcz44_0, hcz44_1⟩ := celN2 BK406.out
                obtain ⟨hfz44_0, hfz44_1⟩ := fzN2 BK406.out
                go_wp2
                refine bodyPost_ret (results_cell_row rfl _ _ gb406 53 #[.int .i64 0, .int .i64 0] (0, 0) _ rfl (by (with_reducible repeat first | apply bDn | apply bDr | apply bAl); refine bPu (cs := #[.int .i64 0, .int .i64 0]) ?_ 1 _ rfl; (with_reducible repeat first | apply bDn | apply bDr | apply bAl); refine bPu (cs := #[.int .i64 0, .int .i64 0]) ?_ 0 _ rfl; (with_reducible repeat first | apply bDn | apply bDr | apply bAl); refine bFr ?_ NB406_404.out _; (with_reducible repeat first | apply bDn | apply bDr | apply bAl); exact BK406.out) Tryd.underlying53 rfl (by kernel_rfl)) rfl ?_
                exact ⟨by first | rfl | exact nEm _ | exact eEm _ | (simp [eWn, eWs] <;> rfl) | (simp [*, eWn, eWs] <;> rfl), by repeat (first | (with_reducible first | exact HB.out | apply aBl | apply pBd | apply dBl | refine sBl ?_ GE404.out | refine sBl ?_ GE405.out | refine sBl ?_ GE406.out) | exact HB.out)⟩
              · rw [if_neg c38] at H
                have c38b0 : decide (a1_1 ≤ x405000_24) = false := decide_eq_false c38
                clear c38
                simp only [Option.some.injEq, Prod.mk.injEq] at H
                obtain ⟨rfl, rfl⟩ := H
                have hnb45 := NB405_404.out
                have hnc45 := NB404_405.out
                have hnb46 := NB405_406.out
                have hnc46 := NB406_405.out
                obtain ⟨hcz47_0, hcz47_1⟩ := celN2 BK405.out
                obtain ⟨hfz47_0, hfz47_1⟩ := fzN2 BK405.out
                have hnb48 := NB404_406.out
                have hnc48 := NB406_404.out
                obtain ⟨hcz49_0, hcz49_1⟩ := celN2 BK404.out
                obtain ⟨hfz49_0, hfz49_1⟩ := fzN2 BK404.out
                obtain ⟨hcz50_0, hcz50_1⟩ := celN2 BK406.out
                obtain ⟨hfz50_0, hfz50_1⟩ := fzN2 BK406.out
                go_wp2
                refine bodyPost_ret (results_cell_row rfl _ _ gb406 53 #[.int .i64 x405000_24, .int .i64 a1_1] (0, 0) _ rfl (by (with_reducible repeat first | apply bDn | apply bDr | apply bAl); refine bPu (cs := #[.int .i64 x405000_24, .int .i64 0]) ?_ 1 _ rfl; (with_reducible repeat first | apply bDn | apply bDr | apply bAl); refine bPu (cs := #[.int .i64 0, .int .i64 0]) ?_ 0 _ rfl; (with_reducible repeat first | apply bDn | apply bDr | apply bAl); refine bFr ?_ NB406_404.out _; (with_reducible repeat first | apply bDn | apply bDr | apply bAl); exact BK406.out) Tryd.underlying53 rfl (by kernel_rfl)) rfl ?_
                exact ⟨by first | rfl | exact nEm _ | exact eEm _ | (simp [eWn, eWs] <;> rfl) | (simp [*, eWn, eWs] <;> rfl), by repeat (first | (with_reducible first | exact HB.out | apply aBl | apply pBd | apply dBl | refine sBl ?_ GE404.out | refine sBl ?_ GE405.out | refine sBl ?_ GE406.out) | exact HB.out)⟩
            · rw [if_neg c37] at H
              have c37b0 : decide (a1_1 < a0_1) = false := decide_eq_false c37
              clear c37
              by_cases c51 : x405000_24 ≥ a0_1
              · rw [if_pos c51] at H
                have c51b0 : decide (a0_1 ≤ x405000_24) = true := decide_eq_true c51
                clear c51
                simp only [Option.some.injEq, Prod.mk.injEq] at H
                obtain ⟨rfl, rfl⟩ := H
                have hnb52 := NB405_404.out
                have hnc52 := NB404_405.out
                have hnb53 := NB405_406.out
                have hnc53 := NB406_405.out
                obtain ⟨hcz54_0, hcz54_1⟩ := celN2 BK405.out
                obtain ⟨hfz54_0, hfz54_1⟩ := fzN2 BK405.out
                have hnb55 := NB404_406.out
                have hnc55 := NB406_404.out
                obtain ⟨hcz56_0, hcz56_1⟩ := celN2 BK404.out
                obtain ⟨hfz56_0, hfz56_1⟩ := fzN2 BK404.out
                obtain ⟨hcz57_0, hcz57_1⟩ := celN2 BK406.out
                obtain ⟨hfz57_0, hfz57_1⟩ := fzN2 BK406.out
                go_wp2
                refine bodyPost_ret (results_cell_row rfl _ _ gb406 53 #[.int .i64 0, .int .i64 0] (0, 0) _ rfl (by (with_reducible repeat first | apply bDn | apply bDr | apply bAl); refine bPu (cs := #[.int .i64 0, .int .i64 0]) ?_ 1 _ rfl; (with_reducible repeat first | apply bDn | apply bDr | apply bAl); refine bPu (cs := #[.int .i64 0, .int .i64 0]) ?_ 0 _ rfl; (with_reducible repeat first | apply bDn | apply bDr | apply bAl); exact BK406.out) Tryd.underlying53 rfl (by kernel_rfl)) rfl ?_
                exact ⟨by first | rfl | exact nEm _ | exact eEm _ | (simp [eWn, eWs] <;> rfl) | (simp [*, eWn, eWs] <;> rfl), by repeat (first | (with_reducible first | exact HB.out | apply aBl | apply pBd | apply dBl | refine sBl ?_ GE404.out | refine sBl ?_ GE405.out | refine sBl ?_ GE406.out) | exact HB.out)⟩
              · rw [if_neg c51] at H
                have c51b0 : decide (a0_1 ≤ x405000_24) = false := decide_eq_false c51
                clear c51
                simp only [Option.some.injEq, Prod.mk.injEq] at H
                obtain ⟨rfl, rfl⟩ := H
                have hnb58 := NB405_404.out
                have hnc58 := NB404_405.out
                have hnb59 := NB405_406.out
                have hnc59 := NB406_405.out
                obtain ⟨hcz60_0, hcz60_1⟩ := celN2 BK405.out
                obtain ⟨hfz60_0, hfz60_1⟩ := fzN2 BK405.out
                have hnb61 := NB404_406.out
                have hnc61 := NB406_404.out
                obtain ⟨hcz62_0, hcz62_1⟩ := celN2 BK404.out
                obtain ⟨hfz62_0, hfz62_1⟩ := fzN2 BK404.out
                obtain ⟨hcz63_0, hcz63_1⟩ := celN2 BK406.out
                obtain ⟨hfz63_0, hfz63_1⟩ := fzN2 BK406.out
                go_wp2
                refine bodyPost_ret (results_cell_row rfl _ _ gb406 53 #[.int .i64 x405000_24, .int .i64 a0_1] (0, 0) _ rfl (by (with_reducible repeat first | apply bDn | apply bDr | apply bAl); refine bPu (cs := #[.int .i64 x405000_24, .int .i64 0]) ?_ 1 _ rfl; (with_reducible repeat first | apply bDn | apply bDr | apply bAl); refine bPu (cs := #[.int .i64 0, .int .i64 0]) ?_ 0 _ rfl; (with_reducible repeat first | apply bDn | apply bDr | apply bAl); exact BK406.out) Tryd.underlying53 rfl (by kernel_rfl)) rfl ?_
                exact ⟨by first | rfl | exact nEm _ | exact eEm _ | (simp [eWn, eWs] <;> rfl) | (simp [*, eWn, eWs] <;> rfl), by repeat (first | (with_reducible first | exact HB.out | apply aBl | apply pBd | apply dBl | refine sBl ?_ GE404.out | refine sBl ?_ GE405.out | refine sBl ?_ GE406.out) | exact HB.out)⟩
end Go.Proofs.YtcnlmpjoghogbaaDoor.PAll
namespace Go.Proofs.YtcnlmpjoghogbaaDoor.PAll
open Go.Proofs.YtcnlmpjoghogbaaDoor.Ag (row_load row_store ag_gate ag_gate_st row_store2)
open Go.RowKit Go.Proofs.YtcnlmpjoghogbaaDoor.Xw Go.Proofs.YtcnlmpjoghogbaaDoorW.PrintWords Go.Proofs.YtcnlmpjoghogbaaDoorW.PrintLast Go.Proofs.YtcnlmpjoghogbaaDoorW.PrintMore
attribute [local go_sem] max2_int min2_int max_two min_two max_three min_three max_four min_four   -- for this text's walks alone
attribute [local go_sem ↓] Ag.ldMap_eq
set_option linter.unusedVariables false
set_option linter.unusedSimpArgs false
mutual
def spenceref04_Cover.l0 : Nat → List (S53) → Int → Int → List Int → Int → Option (List Int)
  | 0, _, _, _, _, _ => none
  | k + 1, x0, x1, x2, x7, x8 => if x8 ≤ 4096 then ((spenceref04_Bounds.f k x8 x1 x2).bind fun bt409 => (if bt409.2 = 0 then (some x7) else (spenceref04_Cover.l1 k x0 x1 x2 x7 x8 false x0 (x0.length : Int) 0 bt409.1 bt409.2))) else (some x7)
def spenceref04_Cover.l1 : Nat → List (S53) → Int → Int → List Int → Int → Bool → List (S53) → Int → Int → Int → Int → Option (List Int)
  | 0, _, _, _, _, _, _, _, _, _, _, _ => none
  | k + 1, x0, x1, x2, x7, x8, x10, x24, x25, x26, x412000, x412001 => if x26 < x25 then (if 0 ≤ x26 then (if x26 < (x24.length : Int) then (if x10 = true then (spenceref04_Cover.l1 k x0 x1 x2 x7 x8 true x24 x25 (wrap64 (x26 + 1)) x412000 x412001) else ((spenceref04_Meet.f k ((rd_T53 x24 x26).f0) ((rd_T53 x24 x26).f1) x412000 x412001).bind fun bt414 => (spenceref04_Cover.l1 k x0 x1 x2 x7 x8 (decide (bt414.2 > 0)) x24 x25 (wrap64 (x26 + 1)) x412000 x412001))) else (none)) else (none)) else (if x10 = true then (if x7.length < 17592186044416 then (spenceref04_Cover.l0 k x0 x1 x2 (x7 ++ [x8]) (wrap64 (x8 + 1))) else (none)) else (spenceref04_Cover.l0 k x0 x1 x2 x7 (wrap64 (x8 + 1))))
end
def spenceref04_Cover.f (k : Nat) (l0 : List (S53)) (a1 : Int) (a2 : Int) : Option (List Int) := spenceref04_Cover.l0 k l0 a1 a2 ([] : List Int) 0
theorem spenceref04_Cover.mono_l : ∀ k, (∀ y0 y1 y2 y3 y4, LeO (spenceref04_Cover.l0 k y0 y1 y2 y3 y4) (spenceref04_Cover.l0 (k + 1) y0 y1 y2 y3 y4)) ∧ (∀ y0 y1 y2 y3 y4 y5 y6 y7 y8 y9 y10, LeO (spenceref04_Cover.l1 k y0 y1 y2 y3 y4 y5 y6 y7 y8 y9 y10) (spenceref04_Cover.l1 (k + 1) y0 y1 y2 y3 y4 y5 y6 y7 y8 y9 y10))
  | 0 => ⟨fun _ _ _ _ _ r h => by simp [spenceref04_Cover.l0] at h, fun _ _ _ _ _ _ _ _ _ _ _ r h => by simp [spenceref04_Cover.l1] at h⟩
  | k + 1 => by
    obtain ⟨ih0, ih1⟩ := spenceref04_Cover.mono_l k
    refine ⟨?_, ?_⟩
    · intro y0 y1 y2 y3 y4
      unfold spenceref04_Cover.l0
      repeat' first
      | (with_reducible exact ih0 _ _ _ _ _)
      | (with_reducible exact ih1 _ _ _ _ _ _ _ _ _ _ _)
      | (with_reducible exact spenceref04_Bounds.mono _ _ _ _)
      | (with_reducible exact spenceref04_Meet.mono _ _ _ _ _)
      | (with_reducible exact LeO.refl _)
      | (with_reducible exact LeO.none _)
      | (with_reducible refine LeO.ite ?_ ?_)
      | (with_reducible refine LeO.bind ?_ (fun _ => ?_))
      | exact ih0 _ _ _ _ _
      | exact ih1 _ _ _ _ _ _ _ _ _ _ _
      | exact spenceref04_Bounds.mono _ _ _ _
      | exact spenceref04_Meet.mono _ _ _ _ _
      | exact LeO.none _
      | refine LeO.ite ?_ ?_
      | refine LeO.bind ?_ (fun _ => ?_)
    · intro y0 y1 y2 y3 y4 y5 y6 y7 y8 y9 y10
      unfold spenceref04_Cover.l1
      repeat' first
      | (with_reducible exact ih0 _ _ _ _ _)
      | (with_reducible exact ih1 _ _ _ _ _ _ _ _ _ _ _)
      | (with_reducible exact spenceref04_Bounds.mono _ _ _ _)
      | (with_reducible exact spenceref04_Meet.mono _ _ _ _ _)
      | (with_reducible exact LeO.refl _)
      | (with_reducible exact LeO.none _)
      | (with_reducible refine LeO.ite ?_ ?_)
      | (with_reducible refine LeO.bind ?_ (fun _ => ?_))
      | exact ih0 _ _ _ _ _
      | exact ih1 _ _ _ _ _ _ _ _ _ _ _
      | exact spenceref04_Bounds.mono _ _ _ _
      | exact spenceref04_Meet.mono _ _ _ _ _
      | exact LeO.none _
      | refine LeO.ite ?_ ?_
      | refine LeO.bind ?_ (fun _ => ?_)
theorem spenceref04_Cover.mono : ∀ a0 a1 a2 k, LeO (spenceref04_Cover.f k a0 a1 a2) (spenceref04_Cover.f (k + 1) a0 a1 a2) := by
  intro a0 a1 a2 k
  obtain ⟨ih0, ih1⟩ := spenceref04_Cover.mono_l k
  unfold spenceref04_Cover.f
  repeat' first
      | (with_reducible exact ih0 _ _ _ _ _)
      | (with_reducible exact ih1 _ _ _ _ _ _ _ _ _ _ _)
      | (with_reducible exact spenceref04_Bounds.mono _ _ _ _)
      | (with_reducible exact spenceref04_Meet.mono _ _ _ _ _)
      | (with_reducible exact LeO.refl _)
      | (with_reducible exact LeO.none _)
      | (with_reducible refine LeO.ite ?_ ?_)
      | (with_reducible refine LeO.bind ?_ (fun _ => ?_))
      | exact ih0 _ _ _ _ _
      | exact ih1 _ _ _ _ _ _ _ _ _ _ _
      | exact spenceref04_Bounds.mono _ _ _ _
      | exact spenceref04_Meet.mono _ _ _ _ _
      | exact LeO.none _
      | refine LeO.ite ?_ ?_
      | refine LeO.bind ?_ (fun _ => ?_)
set_option maxHeartbeats 8000000 in
set_option maxRecDepth 100000 in
theorem spenceref04_Cover.calls (k : Nat) (A0 : Option Addr) (c0 : Nat) (l0 : List (S53)) (a1 : Int) (a2 : Int) (r : List Int) (w : World) (hr0 : Kd.C k53 w A0 l0.length l0) (hc0 : l0.length ≤ c0) (h : spenceref04_Cover.f k l0 a1 a2 = some r) :
    Calls Tryd.prog 38 #[.slice A0 l0.length c0, .int .i64 a1, .int .i64 a2] w fun e w' => ∃ v0_ : Value, e = .returned (v0_) ∧ Kd.R (Kd.int .i64) 3 w' w.heap.size (fun _ => True) v0_ r ∧ Below w.heap.size w w' := by
  have hu53 := Tryd.underlying53
  have HR0 := AsZ.mk hr0
  have HC0 := AsZ.mk hc0
  clear hr0 hc0
  have HB := AsZ.mk (Below.refl w.heap.size w)
  have H : (spenceref04_Cover.l0 k l0 a1 a2 ([] : List Int) 0) = some r := h
  clear h
  have H' := AsZ.mk H
  clear H
  go_enter Tryd.func38, Tryd.ntmps38
  go_wp2
  go_loopg [7, 8] k (fun kq v7 v8 w' => ∃ (x7_1 : List Int) (x8_1 : Int), v8 = .int .i64 x8_1 ∧ AsZ (spenceref04_Cover.l0 kq l0 a1 a2 x7_1 x8_1 = some r) ∧ AsZ (kq ≤ k) ∧ AsZ (Kd.R (Kd.int .i64) 3 w' w.heap.size (fun _ => True) v7 x7_1) ∧ AsZ (Below w.heap.size w w'))
  case atStart => exact ⟨(([] : List Int)), (0), (by first | rfl | (simp; done) | (simp [*]; done)), H', ⟨Nat.le_refl _⟩, ⟨by first | exact Kd.R_nil _ _ _ _ _ | exact Kd.N_nil _ _ _ _ _ | exact Kd.V_nil _ _ _ _ _ | exact Kd.Q_nil _ _ _ _ _ | exact Kd.S_nil _ _ _ _ _⟩, ⟨by repeat (first | (with_reducible first | exact HB.out | apply aBl | apply pBd | apply dBl) | exact HB.out)⟩⟩
  case round =>
    clear H'
    try clear p2
    try clear c3
    obtain ⟨x7_1, x8_1, rfl, HA, HK1, HO_7, HB⟩ := hrel
    cases gk with
    | zero => exact absurd HA.out (by simp [spenceref04_Cover.l0])
    | succ k1 =>
      have H := HA.out
      clear HA
      simp only [spenceref04_Cover.l0] at H
      by_cases c4 : x8_1 ≤ 4096
      · rw [if_pos c4] at H
        have c4b0 : decide (x8_1 ≤ 4096) = true := decide_eq_true c4
        clear c4
        replace H := Option.bind_eq_some_iff.mp H
        obtain ⟨⟨t409, t410⟩, A50, H⟩ := H
        replace H : (if t410 = 0 then (some x7_1) else (spenceref04_Cover.l1 k1 l0 a1 a2 x7_1 x8_1 false l0 (l0.length : Int) 0 t409 t410)) = some r := H
        have A5 := AsZ.mk A50
        clear A50
        by_cases c6 : t410 = 0
        · rw [if_pos c6] at H
          have c6b0 : (t410 == 0) = true := beq_iff_eq.mpr c6
          have c6b1 : (t410 != 0) = false := bne_eq_false_iff_eq.mpr c6
          clear c6
          obtain rfl := Option.some.inj H
          go_wp2_with (first | ((with_reducible refine gCa (f := 52) rfl ?_); refine gLl (some 20) rfl rfl Tryd.func52 (by kernel_rfl) rfl #[.int .i64 x8_1, .int .i64 a1, .int .i64 a2] rfl (by (try simp only [List.map_toArray, List.map_cons, List.map_nil]); first | done | rfl | (simp only [List.length_drop, List.length_take]; rfl)) ?_; (with_reducible refine (spenceref04_Bounds.calls k1 x8_1 a1 a2 t409 t410 _ A5.out).mono ?_); rintro e w7 ⟨rfl, hb⟩; refine ⟨_, rfl, ?_⟩; have n0_ := AsZ.mk (Kd.R_below (by (with_reducible repeat (first | apply Kd.R_alloc | apply Kd.R_drewN | apply Kd.R_drew)); exact HO_7.out) hb); have n1_ := AsZ.mk (tBl (by repeat (first | (with_reducible first | exact HB.out | apply aBl | apply pBd | apply dBl) | exact HB.out)) hb); clear HO_7; clear HB; have HO_7 := n0_; have HB := n1_; clear n0_ n1_; (try clear hb); (try clear hb2); (try clear hk); (try clear hi)) | ((with_reducible refine gDs (N := 9) rfl ?_); refine bEv ?hg (N := 9) ?hd (cs := #[.int .i64 0, .int .i64 0]) (t := 53) ?hr ?_; (case hd => rfl); (case hg => rfl); (case hr => first | (go_simp; done) | (go_simp; rfl)); intro gb411 hg w8 hbox hb; have n0_ := AsZ.mk (Kd.R_below (by (with_reducible repeat (first | apply Kd.R_alloc | apply Kd.R_drewN | apply Kd.R_drew)); exact HO_7.out) hb); have n1_ := AsZ.mk (tBl (by repeat (first | (with_reducible first | exact HB.out | apply aBl | apply pBd | apply dBl) | exact HB.out)) hb); have n2_ := AsZ.mk (hbox); have n3_ := AsZ.mk ((by rw [hg]; exact (zBl (by repeat (first | (with_reducible first | exact HB.out | apply aBl | apply pBd | apply dBl) | exact HB.out))) : w.heap.size ≤ gb411)); have n4_ := AsZ.mk ((by rw [hg]; exact (zBl (by repeat (first | (with_reducible first | exact HB.out | apply aBl | apply pBd | apply dBl) | exact HB.out))) : w.heap.size ≤ gb411)); clear HO_7; clear HB; have HO_7 := n0_; have HB := n1_; have BK411 := n2_; have GW411 := n3_; have GE411 := n4_; clear n0_ n1_ n2_ n3_ n4_; clear hb hbox hg; obtain ⟨hcz9_0, hcz9_1⟩ := celN2 BK411.out; obtain ⟨hfz9_0, hfz9_1⟩ := fzN2 BK411.out))
          go_ret
          exact ⟨_, by first | rfl | (simp [eWn, eWs] <;> rfl) | (simp [*, eWn, eWs] <;> rfl), by (with_reducible repeat (first | apply Kd.R_alloc | apply Kd.R_drewN | apply Kd.R_drew)); exact Kd.R_mono (Kd.R_far (p := ⟨gb411, 1, none⟩) (Kd.R_far (p := ⟨gb411, 0, none⟩) (Kd.R_types HO_7.out BK411.out (by decide)) (fun _ hk => hk.2) (.int .i64 t409)) (fun _ hk => hk.2) (.int .i64 t410)) (fun _ hk => trivial), by repeat (first | (with_reducible first | exact HB.out | apply aBl | apply pBd | apply dBl | refine sBl ?_ GE411.out) | exact HB.out)⟩
        · rw [if_neg c6] at H
          have c6b0 : (t410 == 0) = false := beq_eq_false_iff_ne.mpr c6
          have c6b1 : (t410 != 0) = true := bne_iff_ne.mpr c6
          have H' := AsZ.mk H
          clear H
          go_wp2_with (first | ((with_reducible refine gCa (f := 52) rfl ?_); refine gLl (some 20) rfl rfl Tryd.func52 (by kernel_rfl) rfl #[.int .i64 x8_1, .int .i64 a1, .int .i64 a2] rfl (by (try simp only [List.map_toArray, List.map_cons, List.map_nil]); first | done | rfl | (simp only [List.length_drop, List.length_take]; rfl)) ?_; (with_reducible refine (spenceref04_Bounds.calls k1 x8_1 a1 a2 t409 t410 _ A5.out).mono ?_); rintro e w10 ⟨rfl, hb⟩; refine ⟨_, rfl, ?_⟩; have n0_ := AsZ.mk (Kd.R_below (by (with_reducible repeat (first | apply Kd.R_alloc | apply Kd.R_drewN | apply Kd.R_drew)); exact HO_7.out) hb); have n1_ := AsZ.mk (tBl (by repeat (first | (with_reducible first | exact HB.out | apply aBl | apply pBd | apply dBl) | exact HB.out)) hb); clear HO_7; clear HB; have HO_7 := n0_; have HB := n1_; clear n0_ n1_; (try clear hb); (try clear hb2); (try clear hk); (try clear hi)) | ((with_reducible refine gDs (N := 9) rfl ?_); refine bEv ?hg (N := 9) ?hd (cs := #[.int .i64 0, .int .i64 0]) (t := 53) ?hr ?_; (case hd => rfl); (case hg => rfl); (case hr => first | (go_simp; done) | (go_simp; rfl)); intro gb411 hg w11 hbox hb; have n0_ := AsZ.mk (Kd.R_below (by (with_reducible repeat (first | apply Kd.R_alloc | apply Kd.R_drewN | apply Kd.R_drew)); exact HO_7.out) hb); have n1_ := AsZ.mk (tBl (by repeat (first | (with_reducible first | exact HB.out | apply aBl | apply pBd | apply dBl) | exact HB.out)) hb); have n2_ := AsZ.mk (hbox); have n3_ := AsZ.mk ((by rw [hg]; exact (zBl (by repeat (first | (with_reducible first | exact HB.out | apply aBl | apply pBd | apply dBl) | exact HB.out))) : w.heap.size ≤ gb411)); have n4_ := AsZ.mk ((by rw [hg]; exact (zBl (by repeat (first | (with_reducible first | exact HB.out | apply aBl | apply pBd | apply dBl) | exact HB.out))) : w.heap.size ≤ gb411)); clear HO_7; clear HB; have HO_7 := n0_; have HB := n1_; have BK411 := n2_; have GW411 := n3_; have GE411 := n4_; clear n0_ n1_ n2_ n3_ n4_; clear hb hbox hg; obtain ⟨hcz12_0, hcz12_1⟩ := celN2 BK411.out; obtain ⟨hfz12_0, hfz12_1⟩ := fzN2 BK411.out))
          go_loopg [10, 26] k1 (fun kq v10 v26 w' => ∃ (x10_2 : Bool) (x26_2 : Int), v10 = .bool x10_2 ∧ v26 = .int .i64 x26_2 ∧ AsZ (spenceref04_Cover.l1 kq l0 a1 a2 x7_1 x8_1 x10_2 l0 (l0.length : Int) x26_2 t409 t410 = some r) ∧ AsZ (kq ≤ k1) ∧ AsZ (Kd.R (Kd.int .i64) 3 w' w.heap.size (fun _ => True) u7 x7_1) ∧ AsZ (w'.heap[gb411]? = some (.cells #[.int .i64 t409, .int .i64 t410] 53 (0, 0))) ∧ AsZ (Below w.heap.size w w'))
          case atStart => exact ⟨(false), (0), (by first | rfl | (simp; done) | (simp [*]; done)), (by first | rfl | (simp; done) | (simp [*]; done)), H', ⟨Nat.le_refl _⟩, ⟨by (with_reducible repeat (first | apply Kd.R_alloc | apply Kd.R_drewN | apply Kd.R_drew)); exact Kd.R_mono (Kd.R_far (p := ⟨gb411, 1, none⟩) (Kd.R_far (p := ⟨gb411, 0, none⟩) (Kd.R_types HO_7.out BK411.out (by decide)) (fun _ hk => hk.2) (.int .i64 t409)) (fun _ hk => hk.2) (.int .i64 t410)) (fun _ hk => trivial)⟩, ⟨by (with_reducible repeat first | apply bDn | apply bDr | apply bAl); refine bPu (cs := #[.int .i64 t409, .int .i64 0]) ?_ 1 _ rfl; (with_reducible repeat first | apply bDn | apply bDr | apply bAl); refine bPu (cs := #[.int .i64 0, .int .i64 0]) ?_ 0 _ rfl; (with_reducible repeat first | apply bDn | apply bDr | apply bAl); exact BK411.out⟩, ⟨by repeat (first | (with_reducible first | exact HB.out | apply aBl | apply pBd | apply dBl | refine sBl ?_ GE411.out) | exact HB.out)⟩⟩
          case round =>
            clear H'
            try clear p2
            try clear c3
            try clear c4
            try clear c4b0
            try clear c5
            try clear c6
            try clear c6b0
            try clear c6b1
            try clear hcz12_0
            try clear hcz12_1
            try clear hcz9_0
            try clear hcz9_1
            try clear hfz12_0
            try clear hfz12_1
            try clear hfz9_0
            try clear hfz9_1
            try clear p2
            obtain ⟨x10_2, x26_2, rfl, rfl, HA, HK2, HO_7, BK411, HB⟩ := hrel
            cases gk with
            | zero => exact absurd HA.out (by simp [spenceref04_Cover.l1])
            | succ k2 =>
              have H := HA.out
              clear HA
              simp only [spenceref04_Cover.l1] at H
              by_cases c13 : x26_2 < (l0.length : Int)
              · rw [if_pos c13] at H
                have c13b0 : decide (x26_2 < (l0.length : Int)) = true := decide_eq_true c13
                clear c13
                by_cases c14 : 0 ≤ x26_2
                · rw [if_pos c14] at H
                  have c14b0 : decide (0 ≤ x26_2) = true := decide_eq_true c14
                  clear c14
                  by_cases c15 : x26_2 < (l0.length : Int)
                  · rw [if_pos c15] at H
                    have c15b0 : decide (x26_2 < (l0.length : Int)) = true := decide_eq_true c15
                    clear c15
                    by_cases c16 : x10_2 = true
                    · subst c16
                      have H1 : (spenceref04_Cover.l1 k2 l0 a1 a2 x7_1 x8_1 true l0 (l0.length : Int) (wrap64 (x26_2 + 1)) t409 t410) = some r := by rw [if_pos rfl] at H; exact H
                      clear H
                      have H := H1
                      clear H1
                      have H' := AsZ.mk H
                      clear H
                      have p412 : 0 ≤ (x26_2 : Int) := of_decide_eq_true (by first | (with_reducible assumption) | assumption)
                      have q412 : x26_2 < (l0.length : Int) := of_decide_eq_true (by first | (with_reducible assumption) | assumption)
                      obtain ⟨ad412, e412, hx412_0, hx412_1⟩ := at_T53 HR0.out x26_2 p412 q412
                      cases e412
                      replace hx412_0 := (HB.out.cell (World.block_lt_of_cell? w _ hx412_0)).trans hx412_0
                      replace hx412_1 := (HB.out.cell (World.block_lt_of_cell? w _ hx412_1)).trans hx412_1
                      replace p412 := eq_true p412
                      replace q412 := eq_true q412
                      go_wp2_with (first | ((with_reducible refine gDs (N := 12) rfl ?_); refine bEv ?hg (N := 12) ?hd (cs := #[.int .i64 0, .int .i64 0]) (t := 53) ?hr ?_; (case hd => rfl); (case hg => rfl); (case hr => first | (go_simp; done) | (go_simp; rfl)); intro gb413 hg w17 hbox hb; have n0_ := AsZ.mk (Kd.R_below (by (with_reducible repeat (first | apply Kd.R_alloc | apply Kd.R_drewN | apply Kd.R_drew)); exact HO_7.out) hb); have n1_ := AsZ.mk (bBl (g := gb411) (o := .cells #[.int .i64 t409, .int .i64 t410] 53 (0, 0)) (by (with_reducible repeat first | apply bDn | apply bDr | apply bAl); exact BK411.out) hb); have n2_ := AsZ.mk (tBl (by repeat (first | (with_reducible first | exact HB.out | apply aBl | apply pBd | apply dBl | refine sBl ?_ GE411.out) | exact HB.out)) hb); have n3_ := AsZ.mk (hbox); have n4_ := AsZ.mk ((by rw [hg]; exact (zBl (by repeat (first | (with_reducible first | exact HB.out | apply aBl | apply pBd | apply dBl | refine sBl ?_ GE411.out) | exact HB.out))) : w.heap.size ≤ gb413)); have n5_ := AsZ.mk ((by rw [hg]; exact (zBl (by repeat (first | (with_reducible first | exact HB.out | apply aBl | apply pBd | apply dBl | refine sBl ?_ GE411.out) | exact HB.out))) : w.heap.size ≤ gb413)); have n6_ := AsZ.mk ((by rw [hg]; exact Nat.ne_of_lt (bLt (g := gb411) (o := .cells #[.int .i64 t409, .int .i64 t410] 53 (0, 0)) (by (with_reducible repeat first | apply bDn | apply bDr | apply bAl); exact BK411.out)) : gb411 ≠ gb413)); have n7_ := AsZ.mk ((by rw [hg]; exact Nat.ne_of_gt (bLt (g := gb411) (o := .cells #[.int .i64 t409, .int .i64 t410] 53 (0, 0)) (by (with_reducible repeat first | apply bDn | apply bDr | apply bAl); exact BK411.out)) : gb413 ≠ gb411)); clear HO_7; clear BK411; clear HB; have HO_7 := n0_; have BK411 := n1_; have HB := n2_; have BK413 := n3_; have GW413 := n4_; have GE413 := n5_; have NB411_413 := n6_; have NB413_411 := n7_; clear n0_ n1_ n2_ n3_ n4_ n5_ n6_ n7_; clear hb hbox hg; have hnb18 := NB413_411.out; have hnc18 := NB411_413.out; obtain ⟨hcz19_0, hcz19_1⟩ := celN2 BK413.out; obtain ⟨hfz19_0, hfz19_1⟩ := fzN2 BK413.out))
                      go_roundg k2
                      case measure => have := HK1.out; have := HK2.out; omega
                      case rel => exact ⟨(true), (wrap64 (x26_2 + 1)), (by first | rfl | (simp; done) | (simp [*]; done)), (by first | rfl | (simp; done) | (simp [*]; done)), H', ⟨by have := HK1.out; have := HK2.out; omega⟩, ⟨by (with_reducible repeat (first | apply Kd.R_alloc | apply Kd.R_drewN | apply Kd.R_drew)); exact Kd.R_mono (Kd.R_far (p := ⟨gb413, 1, none⟩) (Kd.R_far (p := ⟨gb413, 0, none⟩) (Kd.R_types HO_7.out BK413.out (by decide)) (fun _ hk => hk.2) (.int .i64 ((rd_T53 l0 x26_2).f0))) (fun _ hk => hk.2) (.int .i64 ((rd_T53 l0 x26_2).f1))) (fun _ hk => trivial)⟩, ⟨by (with_reducible repeat first | apply bDn | apply bDr | apply bAl); refine bFr ?_ NB411_413.out _; (with_reducible repeat first | apply bDn | apply bDr | apply bAl); refine bFr ?_ NB411_413.out _; (with_reducible repeat first | apply bDn | apply bDr | apply bAl); exact BK411.out⟩, ⟨by repeat (first | (with_reducible first | exact HB.out | apply aBl | apply pBd | apply dBl | refine sBl ?_ GE411.out | refine sBl ?_ GE413.out) | exact HB.out)⟩⟩
                    · replace c16 := Bool.eq_false_iff.mpr c16
                      subst c16
                      have H1 : ((spenceref04_Meet.f k2 ((rd_T53 l0 x26_2).f0) ((rd_T53 l0 x26_2).f1) t409 t410).bind fun bt414 => (spenceref04_Cover.l1 k2 l0 a1 a2 x7_1 x8_1 (decide (bt414.2 > 0)) l0 (l0.length : Int) (wrap64 (x26_2 + 1)) t409 t410)) = some r := by rw [if_neg (show ¬ (false = true) by decide)] at H; exact H
                      clear H
                      have H := H1
                      clear H1
                      replace H := Option.bind_eq_some_iff.mp H
                      obtain ⟨⟨t414, t415⟩, A200, H⟩ := H
                      replace H : (spenceref04_Cover.l1 k2 l0 a1 a2 x7_1 x8_1 (decide (t415 > 0)) l0 (l0.length : Int) (wrap64 (x26_2 + 1)) t409 t410) = some r := H
                      have A20 := AsZ.mk A200
                      clear A200
                      have H' := AsZ.mk H
                      clear H
                      have p412 : 0 ≤ (x26_2 : Int) := of_decide_eq_true (by first | (with_reducible assumption) | assumption)
                      have q412 : x26_2 < (l0.length : Int) := of_decide_eq_true (by first | (with_reducible assumption) | assumption)
                      obtain ⟨ad412, e412, hx412_0, hx412_1⟩ := at_T53 HR0.out x26_2 p412 q412
                      cases e412
                      replace hx412_0 := (HB.out.cell (World.block_lt_of_cell? w _ hx412_0)).trans hx412_0
                      replace hx412_1 := (HB.out.cell (World.block_lt_of_cell? w _ hx412_1)).trans hx412_1
                      replace p412 := eq_true p412
                      replace q412 := eq_true q412
                      go_wp2_with (first | ((with_reducible refine gDs (N := 12) rfl ?_); refine bEv ?hg (N := 12) ?hd (cs := #[.int .i64 0, .int .i64 0]) (t := 53) ?hr ?_; (case hd => rfl); (case hg => rfl); (case hr => first | (go_simp; done) | (go_simp; rfl)); intro gb413 hg w21 hbox hb; have n0_ := AsZ.mk (Kd.R_below (by (with_reducible repeat (first | apply Kd.R_alloc | apply Kd.R_drewN | apply Kd.R_drew)); exact HO_7.out) hb); have n1_ := AsZ.mk (bBl (g := gb411) (o := .cells #[.int .i64 t409, .int .i64 t410] 53 (0, 0)) (by (with_reducible repeat first | apply bDn | apply bDr | apply bAl); exact BK411.out) hb); have n2_ := AsZ.mk (tBl (by repeat (first | (with_reducible first | exact HB.out | apply aBl | apply pBd | apply dBl | refine sBl ?_ GE411.out) | exact HB.out)) hb); have n3_ := AsZ.mk (hbox); have n4_ := AsZ.mk ((by rw [hg]; exact (zBl (by repeat (first | (with_reducible first | exact HB.out | apply aBl | apply pBd | apply dBl | refine sBl ?_ GE411.out) | exact HB.out))) : w.heap.size ≤ gb413)); have n5_ := AsZ.mk ((by rw [hg]; exact (zBl (by repeat (first | (with_reducible first | exact HB.out | apply aBl | apply pBd | apply dBl | refine sBl ?_ GE411.out) | exact HB.out))) : w.heap.size ≤ gb413)); have n6_ := AsZ.mk ((by rw [hg]; exact Nat.ne_of_lt (bLt (g := gb411) (o := .cells #[.int .i64 t409, .int .i64 t410] 53 (0, 0)) (by (with_reducible repeat first | apply bDn | apply bDr | apply bAl); exact BK411.out)) : gb411 ≠ gb413)); have n7_ := AsZ.mk ((by rw [hg]; exact Nat.ne_of_gt (bLt (g := gb411) (o := .cells #[.int .i64 t409, .int .i64 t410] 53 (0, 0)) (by (with_reducible repeat first | apply bDn | apply bDr | apply bAl); exact BK411.out)) : gb413 ≠ gb411)); clear HO_7; clear BK411; clear HB; have HO_7 := n0_; have BK411 := n1_; have HB := n2_; have BK413 := n3_; have GW413 := n4_; have GE413 := n5_; have NB411_413 := n6_; have NB413_411 := n7_; clear n0_ n1_ n2_ n3_ n4_ n5_ n6_ n7_; clear hb hbox hg; have hnb22 := NB413_411.out; have hnc22 := NB411_413.out; obtain ⟨hcz23_0, hcz23_1⟩ := celN2 BK413.out; obtain ⟨hfz23_0, hfz23_1⟩ := fzN2 BK413.out; obtain ⟨hcz24_0, hcz24_1⟩ := celN2 BK411.out; obtain ⟨hfz24_0, hfz24_1⟩ := fzN2 BK411.out) | (go_at_call 57; (with_reducible refine (spenceref04_Meet.calls k2 ((rd_T53 l0 x26_2).f0) ((rd_T53 l0 x26_2).f1) t409 t410 t414 t415 _ A20.out).mono ?_); rintro e w25 ⟨rfl, hb⟩; have n0_ := AsZ.mk (Kd.R_below (by (with_reducible repeat (first | apply Kd.R_alloc | apply Kd.R_drewN | apply Kd.R_drew)); exact (Kd.R_mono (Kd.R_far (p := ⟨gb413, 1, none⟩) (Kd.R_far (p := ⟨gb413, 0, none⟩) (Kd.R_types HO_7.out BK413.out (by decide)) (fun _ hk => hk.2) (.int .i64 ((rd_T53 l0 x26_2).f0))) (fun _ hk => hk.2) (.int .i64 ((rd_T53 l0 x26_2).f1))) (fun _ h_ => h_.1))) hb); have n1_ := AsZ.mk (bBl (g := gb411) (o := .cells #[.int .i64 t409, .int .i64 t410] 53 (0, 0)) (by (with_reducible repeat first | apply bDn | apply bDr | apply bAl); refine bFr ?_ NB411_413.out _; (with_reducible repeat first | apply bDn | apply bDr | apply bAl); refine bFr ?_ NB411_413.out _; (with_reducible repeat first | apply bDn | apply bDr | apply bAl); exact BK411.out) hb); have n2_ := AsZ.mk (bBl (g := gb413) (o := .cells #[.int .i64 ((rd_T53 l0 x26_2).f0), .int .i64 ((rd_T53 l0 x26_2).f1)] 53 (0, 0)) (by (with_reducible repeat first | apply bDn | apply bDr | apply bAl); refine bPu (cs := #[.int .i64 ((rd_T53 l0 x26_2).f0), .int .i64 0]) ?_ 1 _ rfl; (with_reducible repeat first | apply bDn | apply bDr | apply bAl); refine bPu (cs := #[.int .i64 0, .int .i64 0]) ?_ 0 _ rfl; (with_reducible repeat first | apply bDn | apply bDr | apply bAl); exact BK413.out) hb); have n3_ := AsZ.mk (tBl (by repeat (first | (with_reducible first | exact HB.out | apply aBl | apply pBd | apply dBl | refine sBl ?_ GE411.out | refine sBl ?_ GE413.out) | exact HB.out)) hb); clear HO_7; clear BK411; clear BK413; clear HB; have HO_7 := n0_; have BK411 := n1_; have BK413 := n2_; have HB := n3_; clear n0_ n1_ n2_ n3_; (try clear hb); (try clear hb2); (try clear hk); (try clear hi)))
                      go_roundg k2
                      case measure => have := HK1.out; have := HK2.out; omega
                      case rel => exact ⟨(decide (t415 > 0)), (wrap64 (x26_2 + 1)), (by first | rfl | (simp; done) | (simp [*]; done)), (by first | rfl | (simp; done) | (simp [*]; done)), H', ⟨by have := HK1.out; have := HK2.out; omega⟩, ⟨by (with_reducible repeat (first | apply Kd.R_alloc | apply Kd.R_drewN | apply Kd.R_drew)); exact HO_7.out⟩, ⟨by (with_reducible repeat first | apply bDn | apply bDr | apply bAl); exact BK411.out⟩, ⟨by repeat (first | (with_reducible first | exact HB.out | apply aBl | apply pBd | apply dBl | refine sBl ?_ GE411.out | refine sBl ?_ GE413.out) | exact HB.out)⟩⟩
                  · rw [if_neg c15] at H
                    exact absurd H (by simp)
                · rw [if_neg c14] at H
                  exact absurd H (by simp)
              · rw [if_neg c13] at H
                have c13b0 : decide (x26_2 < (l0.length : Int)) = false := decide_eq_false c13
                clear c13
                by_cases c26 : x10_2 = true
                · subst c26
                  have H1 : (if x7_1.length < 17592186044416 then (spenceref04_Cover.l0 k2 l0 a1 a2 (x7_1 ++ [x8_1]) (wrap64 (x8_1 + 1))) else (none)) = some r := by rw [if_pos rfl] at H; exact H
                  clear H
                  have H := H1
                  clear H1
                  by_cases c27 : x7_1.length < 17592186044416
                  · rw [if_pos c27] at H
                    have LMc27 := AsZ.mk c27
                    clear c27
                    obtain ⟨y416, hy416⟩ : ∃ y_ : List Int, y_ = (x7_1 ++ [x8_1]) := ⟨_, rfl⟩
                    replace H : (spenceref04_Cover.l0 k2 l0 a1 a2 y416 (wrap64 (x8_1 + 1))) = some r := by first | (rw [hy416]; with_reducible exact H) | (have H2_ := (Option.bind_some _ _).symm.trans H; rw [hy416]; with_reducible exact H2_) | (have H2_ := (Option.bind_some _ _).symm.trans H; with_reducible exact H2_) | with_reducible exact H | (rw [hy416]; exact H) | exact H
                    have Ny416 := AsZ.mk hy416
                    clear hy416
                    have H' := AsZ.mk H
                    clear H
                    go_wp2_with (first | ((with_reducible refine gate_builtin (b := .append) (xs := #[.tmp 40, .tmp 42]) rfl ?_); at_builtin; refine Kd.R_append (Kd.int .i64) (w0 := w) w.heap.size rfl (.tmp 40) (.tmp 42) 22 3 (.int .i64 0) 8 rfl Tryd.underlying22 info3 rfl (by decide) (by omega) u7 x7_1 x8_1 [.int .i64 x8_1] (fun _ => True) (fun _ => False) rfl rfl ?aP (fun _ hk => hk.elim) ?aF ?aO ?aB ?aS ?aL ?_; (case aP => exact rfl); (case aB => exact (by repeat (first | (with_reducible first | exact HB.out | apply aBl | apply pBd | apply dBl | refine sBl ?_ GE411.out) | exact HB.out))); (case aF => exact (fun _ _ => trivial)); (case aO => exact (by (with_reducible repeat (first | apply Kd.R_alloc | apply Kd.R_drewN | apply Kd.R_drew)); exact HO_7.out)); (case aS => exact (zBl (by repeat (first | (with_reducible first | exact HB.out | apply aBl | apply pBd | apply dBl | refine sBl ?_ GE411.out) | exact HB.out)))); (case aL => have := LMc27.out; omega); intro v417 w28 ho hb hg hat; rw [← Ny416.out] at ho; have n0_ := AsZ.mk (blk_grown (g := gb411) (o := .cells #[.int .i64 t409, .int .i64 t410] 53 (0, 0)) (by (with_reducible repeat first | apply bDn | apply bDr | apply bAl); exact BK411.out) hg (Kd.R_ne HO_7.out BK411.out (by decide))); have n1_ := AsZ.mk (hb); have n2_ := AsZ.mk (ho); clear BK411; clear HB; clear HO_7; have BK411 := n0_; have HB := n1_; have HO418 := n2_; clear n0_ n1_ n2_; clear ho hb hg hat))
                    go_roundg k2
                    case measure => have := HK1.out; have := HK2.out; omega
                    case rel => exact ⟨(y416), (wrap64 (x8_1 + 1)), (by first | rfl | (simp; done) | (simp [*]; done)), H', ⟨by have := HK1.out; have := HK2.out; omega⟩, ⟨by (with_reducible repeat (first | apply Kd.R_alloc | apply Kd.R_drewN | apply Kd.R_drew)); exact HO418.out⟩, ⟨by repeat (first | (with_reducible first | exact HB.out | apply aBl | apply pBd | apply dBl | refine sBl ?_ GE411.out) | exact HB.out)⟩⟩
                  · rw [if_neg c27] at H
                    exact absurd H (by simp)
                · replace c26 := Bool.eq_false_iff.mpr c26
                  subst c26
                  have H1 : (spenceref04_Cover.l0 k2 l0 a1 a2 x7_1 (wrap64 (x8_1 + 1))) = some r := by rw [if_neg (show ¬ (false = true) by decide)] at H; exact H
                  clear H
                  have H := H1
                  clear H1
                  have H' := AsZ.mk H
                  clear H
                  go_wp2
                  go_roundg k2
                  case measure => have := HK1.out; have := HK2.out; omega
                  case rel => exact ⟨(x7_1), (wrap64 (x8_1 + 1)), (by first | rfl | (simp; done) | (simp [*]; done)), H', ⟨by have := HK1.out; have := HK2.out; omega⟩, ⟨by (with_reducible repeat (first | apply Kd.R_alloc | apply Kd.R_drewN | apply Kd.R_drew)); exact HO_7.out⟩, ⟨by repeat (first | (with_reducible first | exact HB.out | apply aBl | apply pBd | apply dBl | refine sBl ?_ GE411.out) | exact HB.out)⟩⟩
      · rw [if_neg c4] at H
        have c4b0 : decide (x8_1 ≤ 4096) = false := decide_eq_false c4
        clear c4
        obtain rfl := Option.some.inj H
        go_wp2
        go_ret
        exact ⟨_, by first | rfl | (simp [eWn, eWs] <;> rfl) | (simp [*, eWn, eWs] <;> rfl), by (with_reducible repeat (first | apply Kd.R_alloc | apply Kd.R_drewN | apply Kd.R_drew)); exact HO_7.out, by repeat (first | (with_reducible first | exact HB.out | apply aBl | apply pBd | apply dBl) | exact HB.out)⟩
def plan_With.f (k : Nat) (l0_0 : List Int) (l0_1 : List S50) (_l0_2 : List S50) (l1 : List Int) (a2_0 : Nat → Int) : Option (List Int × (List (S50)) × (List (S50))) := if l0_0.length + l1.length ≤ 1000000 ∧ l0_1.length ≤ 1000000 then (plan_fetch.f k (l0_0 ++ l1) a2_0).bind fun t => some (l0_0, l0_1, t) else none
theorem plan_With.mono : ∀ a0 a1 a2 a3 a4 k, LeO (plan_With.f k a0 a1 a2 a3 a4) (plan_With.f (k + 1) a0 a1 a2 a3 a4) := by
  intro a0 a1 a2 a3 a4 k r h
  unfold plan_With.f at h ⊢
  split at h
  · rename_i c
    rw [if_pos c]
    obtain ⟨t, ht, h⟩ := Option.bind_eq_some_iff.1 h
    rw [plan_fetch.mono _ _ k t ht, Option.bind_some]
    exact h
  · cases h
theorem plan_With.calls (k : Nat) (A0_0 : Option Addr) (c0_0 : Nat) (l0_0 : List Int) (A0_1 : Option Addr) (c0_1 : Nat) (l0_1 : List S50) (A0_2 : Option Addr) (c0_2 : Nat) (l0_2 : List S50) (A1 : Option Addr) (c1 : Nat) (l1 : List Int) (a2_0 : (Nat → Int)) (r1 : List Int) (r2 : List (S50)) (r3 : List (S50)) (w : World) (hr0_0 : Kd.C (Kd.int .i64) w A0_0 l0_0.length l0_0) (_hc0_0 : l0_0.length ≤ c0_0) (hr0_1 : Kd.C k50 w A0_1 l0_1.length l0_1) (hc0_1 : l0_1.length ≤ c0_1) (_hr0_2 : Kd.C k50 w A0_2 l0_2.length l0_2) (_hc0_2 : l0_2.length ≤ c0_2) (hr1 : Kd.C (Kd.int .i64) w A1 l1.length l1) (_hc1 : l1.length ≤ c1) (hT_ : Ag.TabW w) (h : plan_With.f k l0_0 l0_1 l0_2 l1 a2_0 = some (r1, r2, r3)) :
    Calls Tryd.prog 39 #[.agg #[.slice A0_0 l0_0.length c0_0, .slice A0_1 l0_1.length c0_1, .slice A0_2 l0_2.length c0_2], .slice A1 l1.length c1, .agg (Ag.agC .u64 65 a2_0)] w fun e w' => ∃ v0_ v1_ v2_ : Value, e = .returned (.agg #[v0_, v1_, v2_]) ∧ Kd.R (Kd.int .i64) 3 w' w.heap.size (fun _ => True) v0_ r1 ∧ Kd.R k50 50 w' w.heap.size (fun k_ => some k_ ≠ (v2_ : Value).ownBlock) v1_ r2 ∧ Kd.R k50 50 w' w.heap.size (fun k_ => some k_ ≠ (v1_ : Value).ownBlock) v2_ r3 ∧ Below w.heap.size w w' := by
  unfold plan_With.f at h
  split at h
  · rename_i hs
    obtain ⟨t, ht, h⟩ := Option.bind_eq_some_iff.1 h
    simp only [Option.some.injEq, Prod.mk.injEq] at h
    obtain ⟨rfl, rfl, rfl⟩ := h
    exact Ag.withP_calls A0_0 A0_1 A0_2 A1 c0_0 c0_1 _ c0_2 c1 l0_0 l1 l0_1 t a2_0 w hr0_0 hr0_1 hc0_1 hr1 hs.1 hs.2 hT_ (fun A c X h1 h2 h3 => plan_fetch.calls k A c _ a2_0 t X h1 h2 h3 ht)
  · cases h
def plan_Cost.f (_l0_0 : List Int) (_l0_1 : List S50) (l0_2 : List S50) (a1 : Int) (a2 : Int) : Option Int := if (l0_2.all fun r => (Ag.priceO a1 a2 r).isSome) = true then some (Ag.costF (fun r => (Ag.priceO a1 a2 r).getD 0) l0_2) else none
theorem plan_Cost.calls (A0_0 : Option Addr) (c0_0 : Nat) (l0_0 : List Int) (A0_1 : Option Addr) (c0_1 : Nat) (l0_1 : List S50) (A0_2 : Option Addr) (c0_2 : Nat) (l0_2 : List S50) (a1 : Int) (a2 : Int) (r : Int) (w : World) (_hr0_0 : Kd.C (Kd.int .i64) w A0_0 l0_0.length l0_0) (_hc0_0 : l0_0.length ≤ c0_0) (_hr0_1 : Kd.C k50 w A0_1 l0_1.length l0_1) (_hc0_1 : l0_1.length ≤ c0_1) (hr0_2 : Kd.C k50 w A0_2 l0_2.length l0_2) (_hc0_2 : l0_2.length ≤ c0_2) (h : plan_Cost.f l0_0 l0_1 l0_2 a1 a2 = some r) :
    Calls Tryd.prog 41 #[.agg #[.slice A0_0 l0_0.length c0_0, .slice A0_1 l0_1.length c0_1, .slice A0_2 l0_2.length c0_2], .int .i64 a1, .int .i64 a2] w fun e w' => e = .returned (.int .i64 r) ∧ Below w.heap.size w w' := by
  unfold plan_Cost.f at h
  split at h
  · rename_i hs
    obtain rfl := Option.some.inj h
    exact Ag.costP_calls A0_0 A0_1 A0_2 _ _ _ _ _ l0_2 a1 a2 w hr0_2 (fun r hr => List.all_eq_true.1 hs r hr)
  · cases h
end Go.Proofs.YtcnlmpjoghogbaaDoor.PAll
