/- What the law CondBack leans on (part 3 of 4): Go functions as plain functions, that the code comes to them, and what these answer. -/
import Derived.Test.YtahoibanpplhbaaKCondBack1
import Derived.Shelf.Strings.OnBuilder
import Derived.Test.YtahoibanpplhbaaProg
import Derived.Test.YtahoibanpplhbaaKCondBack0
import Derived.OpenShut
import Derived.Laws.BytesArg
import Derived.Laws.Strings
import Derived.Lib.Bytealg
namespace Go.Proofs.Ytahoibanpplhbaa.PAll
open Go.RowKit Go.Proofs.Ytahoibanpplhbaa.Xw Go.Proofs.YtahoibanpplhbaaW.PrintWords Go.Proofs.YtahoibanpplhbaaW.PrintLast Go.Proofs.YtahoibanpplhbaaW.PrintMore
attribute [local go_sem] max2_int min2_int max_two min_two max_three min_three max_four min_four   -- for this text's walks alone
set_option linter.unusedVariables false
set_option linter.unusedSimpArgs false
/-- the closure that 'has' hands over -/
def hasO (lk : Nat) (a1 : ByteArray) (x : S51) : Option Bool := if lk = 49 then etag_Strong.f x.f0 x.f1 false a1 else if lk = 50 then etag_Weak.f x.f0 x.f1 false a1 else none
set_option maxHeartbeats 4000000 in
theorem has1 (lk : Nat) (a1 : ByteArray) (g1 g2 : Nat) (x : S51) (b : Bool) (W : World) (h1 : W.heap[g1]? = some (.cells #[.func (.func lk) #[] #[]] 78 (0, 0))) (h2 : W.heap[g2]? = some (.cells #[.bool false, .string a1] 51 (0, 0))) (h : hasO lk a1 x = some b) :
    Calls Try.prog 68 #[.agg #[.bool x.f0, .string x.f1], .pointer (some ⟨g1, 0, none⟩), .pointer (some ⟨g2, 0, none⟩)] W fun e w' => e = .returned (.bool b) ∧ Below W.heap.size W w' := by
  have hlk : ∀ W', Calls Try.prog lk #[.agg #[.bool x.f0, .string x.f1], .agg #[.bool false, .string a1]] W' fun e w' => e = .returned (.bool b) ∧ Below W'.heap.size W' w' := by
    intro W'
    unfold hasO at h
    by_cases e1 : lk = 49
    · subst e1; exact etag_Strong.calls _ _ _ _ b W' h
    · rw [if_neg e1] at h
      by_cases e2 : lk = 50
      · subst e2; exact etag_Weak.calls _ _ _ _ b W' h
      · rw [if_neg e2] at h; cases h
  have elk : ∀ args w, (callFunc lk args).run Try.prog w = .ok (.enter lk args) w := by
    unfold hasO at h
    by_cases e1 : lk = 49
    · subst e1; exact enters_own Try.func49 (by kernel_rfl) rfl
    · rw [if_neg e1] at h
      by_cases e2 : lk = 50
      · subst e2; exact enters_own Try.func50 (by kernel_rfl) rfl
      · rw [if_neg e2] at h; cases h
  clear h
  have c1 : W.cell? ⟨g1, 0, none⟩ = some (.func (.func lk) #[] #[]) := (blk_cell h1 0).trans rfl
  have c2 : W.cell? ⟨g2, 0, none⟩ = some (.bool false) := (blk_cell h2 0).trans rfl
  have c3 : W.cell? ⟨g2, 1, none⟩ = some (.string a1) := (blk_cell h2 1).trans rfl
  have l1 : g1 < W.heap.size := blk_lt h1
  have l2 : g2 < W.heap.size := blk_lt h2
  clear h1 h2
  go_enter Try.func68, Try.ntmps68
  go_wp2_with (fail)
  refine (hlk _).mono ?_
  rintro e w' ⟨rfl, hb'⟩
  dsimp only
  clear hlk
  go_wp2_with (fail)
  go_ret
  exact ⟨rfl, below_step (below_alloc (Below.refl _ _) _) hb'⟩
def cond_has.f (k : Nat) (a0 : ByteArray) (a1 : ByteArray) (a2 : Nat) : Option Bool := (cond_Parse.f k a0).bind fun t => (if t.2.2 = 0 then (if t.1 = true then (some true) else (anyO (hasO a2 a1) t.2.1)) else (some false))
theorem cond_has.mono : ∀ a0 a1 a2 k, LeO (cond_has.f k a0 a1 a2) (cond_has.f (k + 1) a0 a1 a2) := by
  intro a0 a1 a2 k
  unfold cond_has.f
  exact LeO.bind (cond_Parse.mono _ _) (fun _ => LeO.refl _)
set_option maxHeartbeats 4000000 in
theorem cond_has.calls (k : Nat) (a0 a1 : ByteArray) (a2 : Nat) (r : Bool) (w : World) (h : cond_has.f k a0 a1 a2 = some r) :
    Calls Try.prog 48 #[.string a0, .string a1, .func (.func a2) #[] #[]] w fun e w' => e = .returned (.bool r) ∧ Below w.heap.size w w' := by
  have hu40 := Try.underlying40
  have hu51 := Try.underlying51
  obtain ⟨⟨any, tags, er⟩, h1, h⟩ := Option.bind_eq_some_iff.mp h
  dsimp only at h
  by_cases he : er = 0
  rotate_left
  · rw [if_neg he] at h
    obtain rfl := Option.some.inj h
    have e1 : (er == 0) = false := beq_eq_false_iff_ne.mpr he
    have e2 : (er != 0) = true := bne_iff_ne.mpr he
    clear he h
    go_enter Try.func48, Try.ntmps48
    go_wp2_with (fail)
    refine (cond_Parse.calls k a0 any tags er _ h1).mono ?_
    rintro e w1 ⟨v, rfl, hR, hb⟩
    obtain ⟨A, c, rfl⟩ := Kd.R_slice hR
    dsimp only
    go_wp2_with (fail)
    go_ret
    exact ⟨rfl, below_alloc (below_step (below_alloc (Below.refl _ _) _) hb) _⟩
  · rw [if_pos he] at h
    subst he
    cases any with
    | true =>
      rw [if_pos rfl] at h
      obtain rfl := Option.some.inj h
      clear h
      go_enter Try.func48, Try.ntmps48
      go_wp2_with (fail)
      refine (cond_Parse.calls k a0 true tags 0 _ h1).mono ?_
      rintro e w1 ⟨v, rfl, hR, hb⟩
      obtain ⟨A, c, rfl⟩ := Kd.R_slice hR
      dsimp only
      go_wp2_with (fail)
      go_ret
      exact ⟨rfl, by repeat (first | exact below_step (below_alloc (Below.refl _ _) _) hb | apply below_alloc)⟩
    | false =>
      rw [if_neg (by decide)] at h
      go_enter Try.func48, Try.ntmps48
      go_wp2_with (fail)
      refine (cond_Parse.calls k a0 false tags 0 _ h1).mono ?_
      rintro e w1 ⟨v, rfl, hR, hb⟩
      obtain ⟨A, c, rfl⟩ := Kd.R_slice hR
      dsimp only
      go_wp2_with (fail)
      generalize hW2 : (w1.alloc (Obj.cells #[Value.bool false, Value.slice A tags.length c] 40)).alloc (Obj.cells #[Value.bool false, Value.string a1] 51) = W2
      have hB1 : W2.heap[w.heap.size]? = some (.cells #[.func (.func a2) #[] #[]] 78 (0, 0)) := by
        rw [← hW2]
        exact blk_alloc (blk_alloc (blk_below (g := w.heap.size) (o := .cells #[.func (.func a2) #[] #[]] 78 (0, 0)) (by simpa using heap_alloc_new w _) hb) _) _
      have hB2 : W2.heap[w1.heap.size + 1]? = some (.cells #[.bool false, .string a1] 51 (0, 0)) := by
        rw [← hW2]
        simpa using heap_alloc_new (w1.alloc (Obj.cells #[Value.bool false, Value.slice A tags.length c] 40)) (Obj.cells #[Value.bool false, Value.string a1] 51)
      have hC : Kd.C k51 W2 A tags.length tags := by rw [← hW2]; exact Kd.C_alloc (Kd.C_alloc (Kd.R_reads' hR).2.2 _) _
      have hBW : Below w.heap.size w W2 := by rw [← hW2]; exact below_alloc (below_alloc (below_step (below_alloc (Below.refl _ _) _) hb) _) _
      have hcc := (Kd.R_reads' hR).2.1
      clear hW2 hR hb
      have hp : ∀ (W : World) (x : S51) (b : Bool), Below W2.heap.size W2 W → hasO a2 a1 x = some b → Calls Try.prog 68 (#[.agg #[.bool x.f0, .string x.f1]] ++ #[.pointer (some ⟨w.heap.size, 0, none⟩), .pointer (some ⟨w1.heap.size + 1, 0, none⟩)]) W fun e w' => e = .returned (.bool b) ∧ Below W2.heap.size W2 w' := by
        intro W x b hbW hx
        rw [show (#[.agg #[.bool x.f0, .string x.f1]] ++ #[.pointer (some ⟨w.heap.size, 0, none⟩), .pointer (some ⟨w1.heap.size + 1, 0, none⟩)] : Array Value) = #[.agg #[.bool x.f0, .string x.f1], .pointer (some ⟨w.heap.size, 0, none⟩), .pointer (some ⟨w1.heap.size + 1, 0, none⟩)] from rfl]
        exact (has1 a2 a1 w.heap.size (w1.heap.size + 1) x b W (blk_below (o := .cells #[.func (.func a2) #[] #[]] 78 (0, 0)) hB1 hbW) (blk_below (o := .cells #[.bool false, .string a1] 51 (0, 0)) hB2 hbW) hx).mono fun e w' ⟨he, hb'⟩ => ⟨he, below_step hbW hb'⟩
      have HC := cont51 68 #[.pointer (some ⟨w.heap.size, 0, none⟩), .pointer (some ⟨w1.heap.size + 1, 0, none⟩)] (hasO a2 a1) A c tags r W2 (enters_own Try.func68 (by kernel_rfl) rfl) hp hC hcc h
      clear hp
      refine HC.mono ?_
      rintro e w3 ⟨rfl, hb3⟩
      dsimp only
      clear h h1 hB1 hB2 hC hcc HC
      go_wp2_with (fail)
      go_ret
      exact ⟨rfl, below_step hBW hb3⟩
def cond_Match.f (k : Nat) (a0 : ByteArray) (a1 : ByteArray) : Option (Bool) := (text_Blank.f k a0).bind fun t274 => (if t274 = true then (some true) else ((cond_has.f k a0 a1 49).bind fun t275 => (some t275)))
theorem cond_Match.mono : ∀ a0 a1 k, LeO (cond_Match.f k a0 a1) (cond_Match.f (k + 1) a0 a1) := by
  intro a0 a1 k
  unfold cond_Match.f
  repeat' first
      | (with_reducible exact cond_has.mono _ _ _ _)
      | (with_reducible exact text_Blank.mono _ _)
      | (with_reducible exact LeO.refl _)
      | (with_reducible exact LeO.none _)
      | (with_reducible refine LeO.ite ?_ ?_)
      | (with_reducible refine LeO.bind ?_ (fun _ => ?_))
      | exact cond_has.mono _ _ _ _
      | exact text_Blank.mono _ _
      | exact LeO.none _
      | refine LeO.ite ?_ ?_
      | refine LeO.bind ?_ (fun _ => ?_)
set_option maxHeartbeats 8000000 in
set_option maxRecDepth 100000 in
theorem cond_Match.calls (k : Nat) (a0 : ByteArray) (a1 : ByteArray) (r : Bool) (w : World) (h : cond_Match.f k a0 a1 = some r) :
    Calls Try.prog 22 #[.string a0, .string a1] w fun e w' => e = .returned (.bool r) ∧ Below w.heap.size w w' := by
  have HB := Aside0.mk (Below.refl w.heap.size w)
  have H : ((text_Blank.f k a0).bind fun t274 => (if t274 = true then (some true) else ((cond_has.f k a0 a1 49).bind fun t275 => (some t275)))) = some r := h
  clear h
  replace H := Option.bind_eq_some_iff.mp H
  obtain ⟨t274, A30, H⟩ := H
  replace H : (if t274 = true then (some true) else ((cond_has.f k a0 a1 49).bind fun t275 => (some t275))) = some r := H
  have A3 := Aside0.mk A30
  clear A30
  by_cases c4 : t274 = true
  · subst c4
    have H1 : (some true) = some r := by rw [if_pos rfl] at H; exact H
    clear H
    have H := H1
    clear H1
    obtain rfl := Option.some.inj H
    go_enter Try.func22, Try.ntmps22
    go_wp2_with (first | ((with_reducible refine gate_callee (f := 47) rfl ?_); refine goesL_ (some 6) rfl rfl Try.func47 (by kernel_rfl) rfl #[.string a0] rfl (by (try simp only [List.map_toArray, List.map_cons, List.map_nil]); first | done | rfl | (simp only [List.length_drop, List.length_take]; rfl)) ?_; (with_reducible refine (text_Blank.calls k a0 true _ A3.out).mono ?_); rintro e w' ⟨rfl, ⟨nd, rfl⟩⟩; refine ⟨_, rfl, ?_⟩))
    go_ret
    exact ⟨by first | rfl | exact ne_empty _ | exact eq_empty _ | (simp [errW_none, errW_some] <;> rfl) | (simp [*, errW_none, errW_some] <;> rfl), by repeat (first | (with_reducible first | exact HB.out | apply below_alloc | apply pw_below_drewN | apply below_drew1) | exact HB.out)⟩
  · replace c4 := Bool.eq_false_iff.mpr c4
    subst c4
    have H1 : ((cond_has.f k a0 a1 49).bind fun t275 => (some t275)) = some r := by rw [if_neg (show ¬ (false = true) by decide)] at H; exact H
    clear H
    have H := H1
    clear H1
    replace H := Option.bind_eq_some_iff.mp H
    obtain ⟨t275, A50, H⟩ := H
    replace H : (some t275) = some r := H
    have A5 := Aside0.mk A50
    clear A50
    obtain rfl := Option.some.inj H
    go_enter Try.func22, Try.ntmps22
    go_wp2_with (first | ((with_reducible refine gate_callee (f := 47) rfl ?_); refine goesL_ (some 6) rfl rfl Try.func47 (by kernel_rfl) rfl #[.string a0] rfl (by (try simp only [List.map_toArray, List.map_cons, List.map_nil]); first | done | rfl | (simp only [List.length_drop, List.length_take]; rfl)) ?_; (with_reducible refine (text_Blank.calls k a0 false _ A3.out).mono ?_); rintro e w' ⟨rfl, ⟨nd, rfl⟩⟩; refine ⟨_, rfl, ?_⟩) | (go_at_call 48; (with_reducible refine (cond_has.calls k a0 a1 49 t275 _ A5.out).mono ?_); rintro e w6 ⟨rfl, hb⟩; have n0_ := Aside0.mk (below_step (by repeat (first | (with_reducible first | exact HB.out | apply below_alloc | apply pw_below_drewN | apply below_drew1) | exact HB.out)) hb); clear HB; have HB := n0_; clear n0_; (try clear hb); (try clear hb2); (try clear hk); (try clear hi)))
    go_ret
    exact ⟨by first | rfl | exact ne_empty _ | exact eq_empty _ | (simp [errW_none, errW_some] <;> rfl) | (simp [*, errW_none, errW_some] <;> rfl), by repeat (first | (with_reducible first | exact HB.out | apply below_alloc | apply pw_below_drewN | apply below_drew1) | exact HB.out)⟩
def cond_None.f (k : Nat) (a0 : ByteArray) (a1 : ByteArray) : Option (Bool) := (text_Blank.f k a0).bind fun t276 => (if t276 = true then (some false) else ((cond_has.f k a0 a1 50).bind fun t277 => (some t277)))
theorem cond_None.mono : ∀ a0 a1 k, LeO (cond_None.f k a0 a1) (cond_None.f (k + 1) a0 a1) := by
  intro a0 a1 k
  unfold cond_None.f
  repeat' first
      | (with_reducible exact cond_has.mono _ _ _ _)
      | (with_reducible exact text_Blank.mono _ _)
      | (with_reducible exact LeO.refl _)
      | (with_reducible exact LeO.none _)
      | (with_reducible refine LeO.ite ?_ ?_)
      | (with_reducible refine LeO.bind ?_ (fun _ => ?_))
      | exact cond_has.mono _ _ _ _
      | exact text_Blank.mono _ _
      | exact LeO.none _
      | refine LeO.ite ?_ ?_
      | refine LeO.bind ?_ (fun _ => ?_)
set_option maxHeartbeats 8000000 in
set_option maxRecDepth 100000 in
theorem cond_None.calls (k : Nat) (a0 : ByteArray) (a1 : ByteArray) (r : Bool) (w : World) (h : cond_None.f k a0 a1 = some r) :
    Calls Try.prog 23 #[.string a0, .string a1] w fun e w' => e = .returned (.bool r) ∧ Below w.heap.size w w' := by
  have HB := Aside0.mk (Below.refl w.heap.size w)
  have H : ((text_Blank.f k a0).bind fun t276 => (if t276 = true then (some false) else ((cond_has.f k a0 a1 50).bind fun t277 => (some t277)))) = some r := h
  clear h
  replace H := Option.bind_eq_some_iff.mp H
  obtain ⟨t276, A30, H⟩ := H
  replace H : (if t276 = true then (some false) else ((cond_has.f k a0 a1 50).bind fun t277 => (some t277))) = some r := H
  have A3 := Aside0.mk A30
  clear A30
  by_cases c4 : t276 = true
  · subst c4
    have H1 : (some false) = some r := by rw [if_pos rfl] at H; exact H
    clear H
    have H := H1
    clear H1
    obtain rfl := Option.some.inj H
    go_enter Try.func23, Try.ntmps23
    go_wp2_with (first | ((with_reducible refine gate_callee (f := 47) rfl ?_); refine goesL_ (some 6) rfl rfl Try.func47 (by kernel_rfl) rfl #[.string a0] rfl (by (try simp only [List.map_toArray, List.map_cons, List.map_nil]); first | done | rfl | (simp only [List.length_drop, List.length_take]; rfl)) ?_; (with_reducible refine (text_Blank.calls k a0 true _ A3.out).mono ?_); rintro e w' ⟨rfl, ⟨nd, rfl⟩⟩; refine ⟨_, rfl, ?_⟩))
    go_ret
    exact ⟨by first | rfl | exact ne_empty _ | exact eq_empty _ | (simp [errW_none, errW_some] <;> rfl) | (simp [*, errW_none, errW_some] <;> rfl), by repeat (first | (with_reducible first | exact HB.out | apply below_alloc | apply pw_below_drewN | apply below_drew1) | exact HB.out)⟩
  · replace c4 := Bool.eq_false_iff.mpr c4
    subst c4
    have H1 : ((cond_has.f k a0 a1 50).bind fun t277 => (some t277)) = some r := by rw [if_neg (show ¬ (false = true) by decide)] at H; exact H
    clear H
    have H := H1
    clear H1
    replace H := Option.bind_eq_some_iff.mp H
    obtain ⟨t277, A50, H⟩ := H
    replace H : (some t277) = some r := H
    have A5 := Aside0.mk A50
    clear A50
    obtain rfl := Option.some.inj H
    go_enter Try.func23, Try.ntmps23
    go_wp2_with (first | ((with_reducible refine gate_callee (f := 47) rfl ?_); refine goesL_ (some 6) rfl rfl Try.func47 (by kernel_rfl) rfl #[.string a0] rfl (by (try simp only [List.map_toArray, List.map_cons, List.map_nil]); first | done | rfl | (simp only [List.length_drop, List.length_take]; rfl)) ?_; (with_reducible refine (text_Blank.calls k a0 false _ A3.out).mono ?_); rintro e w' ⟨rfl, ⟨nd, rfl⟩⟩; refine ⟨_, rfl, ?_⟩) | (go_at_call 48; (with_reducible refine (cond_has.calls k a0 a1 50 t277 _ A5.out).mono ?_); rintro e w6 ⟨rfl, hb⟩; have n0_ := Aside0.mk (below_step (by repeat (first | (with_reducible first | exact HB.out | apply below_alloc | apply pw_below_drewN | apply below_drew1) | exact HB.out)) hb); clear HB; have HB := n0_; clear n0_; (try clear hb); (try clear hb2); (try clear hk); (try clear hi)))
    go_ret
    exact ⟨by first | rfl | exact ne_empty _ | exact eq_empty _ | (simp [errW_none, errW_some] <;> rfl) | (simp [*, errW_none, errW_some] <;> rfl), by repeat (first | (with_reducible first | exact HB.out | apply below_alloc | apply pw_below_drewN | apply below_drew1) | exact HB.out)⟩
def spencelaw46_awake.f (k : Nat)  : Option (Bool) := (cond_None.f k (⟨#[42]⟩ : ByteArray) (⟨#[97]⟩ : ByteArray)).bind fun t278 => (if t278 = true then ((cond_Match.f k (⟨#[34, 98, 34, 44, 32, 34, 97, 34]⟩ : ByteArray) (⟨#[97]⟩ : ByteArray)).bind fun t279 => (if t279 = true then ((cond_Match.f k (⟨#[87, 47, 34, 97, 34]⟩ : ByteArray) (⟨#[97]⟩ : ByteArray)).bind fun t280 => (some (!t280))) else (some false))) else (some false))
theorem spencelaw46_awake.mono : ∀ k, LeO (spencelaw46_awake.f k ) (spencelaw46_awake.f (k + 1) ) := by
  intro  k
  unfold spencelaw46_awake.f
  repeat' first
      | (with_reducible exact cond_Match.mono _ _ _)
      | (with_reducible exact cond_None.mono _ _ _)
      | (with_reducible exact LeO.refl _)
      | (with_reducible exact LeO.none _)
      | (with_reducible refine LeO.ite ?_ ?_)
      | (with_reducible refine LeO.bind ?_ (fun _ => ?_))
      | exact cond_Match.mono _ _ _
      | exact cond_None.mono _ _ _
      | exact LeO.none _
      | refine LeO.ite ?_ ?_
      | refine LeO.bind ?_ (fun _ => ?_)
set_option maxHeartbeats 8000000 in
set_option maxRecDepth 100000 in
theorem spencelaw46_awake.calls (k : Nat)  (r : Bool) (w : World) (h : spencelaw46_awake.f k  = some r) :
    Calls Try.prog 17 #[] w fun e w' => e = .returned (.bool r) ∧ Below w.heap.size w w' := by
  have HB := Aside0.mk (Below.refl w.heap.size w)
  have H : ((cond_None.f k (⟨#[42]⟩ : ByteArray) (⟨#[97]⟩ : ByteArray)).bind fun t278 => (if t278 = true then ((cond_Match.f k (⟨#[34, 98, 34, 44, 32, 34, 97, 34]⟩ : ByteArray) (⟨#[97]⟩ : ByteArray)).bind fun t279 => (if t279 = true then ((cond_Match.f k (⟨#[87, 47, 34, 97, 34]⟩ : ByteArray) (⟨#[97]⟩ : ByteArray)).bind fun t280 => (some (!t280))) else (some false))) else (some false))) = some r := h
  clear h
  replace H := Option.bind_eq_some_iff.mp H
  obtain ⟨t278, A10, H⟩ := H
  replace H : (if t278 = true then ((cond_Match.f k (⟨#[34, 98, 34, 44, 32, 34, 97, 34]⟩ : ByteArray) (⟨#[97]⟩ : ByteArray)).bind fun t279 => (if t279 = true then ((cond_Match.f k (⟨#[87, 47, 34, 97, 34]⟩ : ByteArray) (⟨#[97]⟩ : ByteArray)).bind fun t280 => (some (!t280))) else (some false))) else (some false)) = some r := H
  have A1 := Aside0.mk A10
  clear A10
  by_cases c2 : t278 = true
  · subst c2
    have H1 : ((cond_Match.f k (⟨#[34, 98, 34, 44, 32, 34, 97, 34]⟩ : ByteArray) (⟨#[97]⟩ : ByteArray)).bind fun t279 => (if t279 = true then ((cond_Match.f k (⟨#[87, 47, 34, 97, 34]⟩ : ByteArray) (⟨#[97]⟩ : ByteArray)).bind fun t280 => (some (!t280))) else (some false))) = some r := by rw [if_pos rfl] at H; exact H
    clear H
    have H := H1
    clear H1
    replace H := Option.bind_eq_some_iff.mp H
    obtain ⟨t279, A30, H⟩ := H
    replace H : (if t279 = true then ((cond_Match.f k (⟨#[87, 47, 34, 97, 34]⟩ : ByteArray) (⟨#[97]⟩ : ByteArray)).bind fun t280 => (some (!t280))) else (some false)) = some r := H
    have A3 := Aside0.mk A30
    clear A30
    by_cases c4 : t279 = true
    · subst c4
      have H1 : ((cond_Match.f k (⟨#[87, 47, 34, 97, 34]⟩ : ByteArray) (⟨#[97]⟩ : ByteArray)).bind fun t280 => (some (!t280))) = some r := by rw [if_pos rfl] at H; exact H
      clear H
      have H := H1
      clear H1
      replace H := Option.bind_eq_some_iff.mp H
      obtain ⟨t280, A50, H⟩ := H
      replace H : (some (!t280)) = some r := H
      have A5 := Aside0.mk A50
      clear A50
      obtain rfl := Option.some.inj H
      go_enter Try.func17, Try.ntmps17
      go_wp2_with (first | ((with_reducible refine gate_callee (f := 23) rfl ?_); refine goesL_ (some 1) rfl rfl Try.func23 (by kernel_rfl) rfl #[.string (⟨#[42]⟩ : ByteArray), .string (⟨#[97]⟩ : ByteArray)] rfl (by (try simp only [List.map_toArray, List.map_cons, List.map_nil]); first | done | rfl | (simp only [List.length_drop, List.length_take]; rfl)) ?_; (with_reducible refine (cond_None.calls k (⟨#[42]⟩ : ByteArray) (⟨#[97]⟩ : ByteArray) true _ A1.out).mono ?_); rintro e w6 ⟨rfl, hb⟩; refine ⟨_, rfl, ?_⟩; have n0_ := Aside0.mk (below_step (by repeat (first | (with_reducible first | exact HB.out | apply below_alloc | apply pw_below_drewN | apply below_drew1) | exact HB.out)) hb); clear HB; have HB := n0_; clear n0_; (try clear hb); (try clear hb2); (try clear hk); (try clear hi)) | (go_at_call 22; (with_reducible refine (cond_Match.calls k (⟨#[34, 98, 34, 44, 32, 34, 97, 34]⟩ : ByteArray) (⟨#[97]⟩ : ByteArray) true _ A3.out).mono ?_); rintro e w7 ⟨rfl, hb⟩; have n0_ := Aside0.mk (below_step (by repeat (first | (with_reducible first | exact HB.out | apply below_alloc | apply pw_below_drewN | apply below_drew1) | exact HB.out)) hb); clear HB; have HB := n0_; clear n0_; (try clear hb); (try clear hb2); (try clear hk); (try clear hi)) | (go_at_call 22; (with_reducible refine (cond_Match.calls k (⟨#[87, 47, 34, 97, 34]⟩ : ByteArray) (⟨#[97]⟩ : ByteArray) t280 _ A5.out).mono ?_); rintro e w8 ⟨rfl, hb⟩; have n0_ := Aside0.mk (below_step (by repeat (first | (with_reducible first | exact HB.out | apply below_alloc | apply pw_below_drewN | apply below_drew1) | exact HB.out)) hb); clear HB; have HB := n0_; clear n0_; (try clear hb); (try clear hb2); (try clear hk); (try clear hi)))
      go_ret
      exact ⟨by first | rfl | exact ne_empty _ | exact eq_empty _ | (simp [errW_none, errW_some] <;> rfl) | (simp [*, errW_none, errW_some] <;> rfl), by repeat (first | (with_reducible first | exact HB.out | apply below_alloc | apply pw_below_drewN | apply below_drew1) | exact HB.out)⟩
    · replace c4 := Bool.eq_false_iff.mpr c4
      subst c4
      have H1 : (some false) = some r := by rw [if_neg (show ¬ (false = true) by decide)] at H; exact H
      clear H
      have H := H1
      clear H1
      obtain rfl := Option.some.inj H
      go_enter Try.func17, Try.ntmps17
      go_wp2_with (first | ((with_reducible refine gate_callee (f := 23) rfl ?_); refine goesL_ (some 1) rfl rfl Try.func23 (by kernel_rfl) rfl #[.string (⟨#[42]⟩ : ByteArray), .string (⟨#[97]⟩ : ByteArray)] rfl (by (try simp only [List.map_toArray, List.map_cons, List.map_nil]); first | done | rfl | (simp only [List.length_drop, List.length_take]; rfl)) ?_; (with_reducible refine (cond_None.calls k (⟨#[42]⟩ : ByteArray) (⟨#[97]⟩ : ByteArray) true _ A1.out).mono ?_); rintro e w9 ⟨rfl, hb⟩; refine ⟨_, rfl, ?_⟩; have n0_ := Aside0.mk (below_step (by repeat (first | (with_reducible first | exact HB.out | apply below_alloc | apply pw_below_drewN | apply below_drew1) | exact HB.out)) hb); clear HB; have HB := n0_; clear n0_; (try clear hb); (try clear hb2); (try clear hk); (try clear hi)) | (go_at_call 22; (with_reducible refine (cond_Match.calls k (⟨#[34, 98, 34, 44, 32, 34, 97, 34]⟩ : ByteArray) (⟨#[97]⟩ : ByteArray) false _ A3.out).mono ?_); rintro e w10 ⟨rfl, hb⟩; have n0_ := Aside0.mk (below_step (by repeat (first | (with_reducible first | exact HB.out | apply below_alloc | apply pw_below_drewN | apply below_drew1) | exact HB.out)) hb); clear HB; have HB := n0_; clear n0_; (try clear hb); (try clear hb2); (try clear hk); (try clear hi)))
      go_ret
      exact ⟨by first | rfl | exact ne_empty _ | exact eq_empty _ | (simp [errW_none, errW_some] <;> rfl) | (simp [*, errW_none, errW_some] <;> rfl), by repeat (first | (with_reducible first | exact HB.out | apply below_alloc | apply pw_below_drewN | apply below_drew1) | exact HB.out)⟩
  · replace c2 := Bool.eq_false_iff.mpr c2
    subst c2
    have H1 : (some false) = some r := by rw [if_neg (show ¬ (false = true) by decide)] at H; exact H
    clear H
    have H := H1
    clear H1
    obtain rfl := Option.some.inj H
    go_enter Try.func17, Try.ntmps17
    go_wp2_with (first | ((with_reducible refine gate_callee (f := 23) rfl ?_); refine goesL_ (some 1) rfl rfl Try.func23 (by kernel_rfl) rfl #[.string (⟨#[42]⟩ : ByteArray), .string (⟨#[97]⟩ : ByteArray)] rfl (by (try simp only [List.map_toArray, List.map_cons, List.map_nil]); first | done | rfl | (simp only [List.length_drop, List.length_take]; rfl)) ?_; (with_reducible refine (cond_None.calls k (⟨#[42]⟩ : ByteArray) (⟨#[97]⟩ : ByteArray) false _ A1.out).mono ?_); rintro e w11 ⟨rfl, hb⟩; refine ⟨_, rfl, ?_⟩; have n0_ := Aside0.mk (below_step (by repeat (first | (with_reducible first | exact HB.out | apply below_alloc | apply pw_below_drewN | apply below_drew1) | exact HB.out)) hb); clear HB; have HB := n0_; clear n0_; (try clear hb); (try clear hb2); (try clear hk); (try clear hi)))
    go_ret
    exact ⟨by first | rfl | exact ne_empty _ | exact eq_empty _ | (simp [errW_none, errW_some] <;> rfl) | (simp [*, errW_none, errW_some] <;> rfl), by repeat (first | (with_reducible first | exact HB.out | apply below_alloc | apply pw_below_drewN | apply below_drew1) | exact HB.out)⟩
def spenceref01_Blank.f (a0 : Int) : Option (Bool) := if a0 = 32 then (some true) else (some (a0 == 9))
end Go.Proofs.Ytahoibanpplhbaa.PAll
namespace Go.Proofs.Ytahoibanpplhbaa.PAll
open Go.RowKit Go.Proofs.Ytahoibanpplhbaa.Xw Go.Proofs.YtahoibanpplhbaaW.PrintWords Go.Proofs.YtahoibanpplhbaaW.PrintLast Go.Proofs.YtahoibanpplhbaaW.PrintMore
attribute [local go_sem] max2_int min2_int max_two min_two max_three min_three max_four min_four   -- for this text's walks alone
set_option linter.unusedVariables false
set_option linter.unusedSimpArgs false
def spenceref04_Tag.l0 : Nat → ByteArray → Int → Option (Bool)
  | 0, _, _ => none
  | k + 1, x0, x3 => if x3 < (x0.size : Int) then (if 0 ≤ x3 then (if (bt x0 x3) = 33 then (spenceref04_Tag.l0 k x0 (wrap64 (x3 + 1))) else (if (bt x0 x3) < 35 then (some false) else (if (bt x0 x3) = 127 then (some false) else (spenceref04_Tag.l0 k x0 (wrap64 (x3 + 1)))))) else (none)) else (some true)
def spenceref04_Tag.f (k : Nat) (a0 : ByteArray) : Option (Bool) := spenceref04_Tag.l0 k a0 0
theorem spenceref04_Tag.mono_l : ∀ k, (∀ y0 y1, LeO (spenceref04_Tag.l0 k y0 y1) (spenceref04_Tag.l0 (k + 1) y0 y1))
  | 0 => fun _ _ r h => by simp [spenceref04_Tag.l0] at h
  | k + 1 => by
    have ih0 := spenceref04_Tag.mono_l k
    · intro y0 y1
      unfold spenceref04_Tag.l0
      repeat' first
      | (with_reducible exact ih0 _ _)
      | (with_reducible exact LeO.refl _)
      | (with_reducible exact LeO.none _)
      | (with_reducible refine LeO.ite ?_ ?_)
      | (with_reducible refine LeO.bind ?_ (fun _ => ?_))
      | exact ih0 _ _
      | exact LeO.none _
      | refine LeO.ite ?_ ?_
      | refine LeO.bind ?_ (fun _ => ?_)
theorem spenceref04_Tag.mono : ∀ a0 k, LeO (spenceref04_Tag.f k a0) (spenceref04_Tag.f (k + 1) a0) := by
  intro a0 k
  have ih0 := spenceref04_Tag.mono_l k
  unfold spenceref04_Tag.f
  repeat' first
      | (with_reducible exact ih0 _ _)
      | (with_reducible exact LeO.refl _)
      | (with_reducible exact LeO.none _)
      | (with_reducible refine LeO.ite ?_ ?_)
      | (with_reducible refine LeO.bind ?_ (fun _ => ?_))
      | exact ih0 _ _
      | exact LeO.none _
      | refine LeO.ite ?_ ?_
      | refine LeO.bind ?_ (fun _ => ?_)
set_option maxHeartbeats 8000000 in
set_option maxRecDepth 100000 in
theorem spenceref04_Tag.calls (k : Nat) (a0 : ByteArray) (r : Bool) (w : World) (h : spenceref04_Tag.f k a0 = some r) :
    Calls Try.prog 25 #[.string a0] w fun e w' => e = .returned (.bool r) ∧ Drawn0 w w' := by
  have H : (spenceref04_Tag.l0 k a0 0) = some r := h
  clear h
  have H' := Aside0.mk H
  clear H
  go_enter Try.func25, Try.ntmps25
  go_wp2
  go_loopg [3] k (fun kq v3 w' => ∃ (x3_1 : Int), v3 = .int .i64 x3_1 ∧ Aside0 (spenceref04_Tag.l0 kq a0 x3_1 = some r) ∧ Aside0 (kq ≤ k) ∧ Drawn0 w w')
  case atStart => exact ⟨(0), (by first | rfl | (simp; done) | (simp [*]; done)), H', ⟨Nat.le_refl _⟩, by repeat (first | exact Drawn0.refl _ | apply Drawn0.step)⟩
  case round =>
    clear H'
    obtain ⟨x3_1, rfl, HA, HK1, ⟨m1, rfl⟩⟩ := hrel
    cases gk with
    | zero => exact absurd HA.out (by simp [spenceref04_Tag.l0])
    | succ k1 =>
      have H := HA.out
      clear HA
      simp only [spenceref04_Tag.l0] at H
      by_cases c2 : x3_1 < (a0.size : Int)
      · rw [if_pos c2] at H
        have c2b0 : decide (x3_1 < (a0.size : Int)) = true := decide_eq_true c2
        clear c2
        by_cases c3 : 0 ≤ x3_1
        · rw [if_pos c3] at H
          have c3b0 : decide (0 ≤ x3_1) = true := decide_eq_true c3
          clear c3
          by_cases c5 : (bt a0 x3_1) = 33
          · rw [if_pos c5] at H
            have c5b0 : ((bt a0 x3_1) == 33) = true := beq_iff_eq.mpr c5
            have c5b1 : ((bt a0 x3_1) != 33) = false := bne_eq_false_iff_eq.mpr c5
            clear c5
            have H' := Aside0.mk H
            clear H
            have p4 : 0 ≤ (x3_1 : Int) := of_decide_eq_true (by first | (with_reducible assumption) | assumption)
            have q4 : x3_1 < (a0.size : Int) := of_decide_eq_true (by first | (with_reducible assumption) | assumption)
            have hx4 := bt_at a0 x3_1
            replace p4 := eq_true p4
            replace q4 := eq_true q4
            go_wp2
            go_roundg k1
            case measure => have := HK1.out; omega
            case rel => exact ⟨(wrap64 (x3_1 + 1)), (by first | rfl | (simp; done) | (simp [*]; done)), H', ⟨by have := HK1.out; omega⟩, by repeat (first | exact Drawn0.refl _ | apply Drawn0.step)⟩
          · rw [if_neg c5] at H
            have c5b0 : ((bt a0 x3_1) == 33) = false := beq_eq_false_iff_ne.mpr c5
            have c5b1 : ((bt a0 x3_1) != 33) = true := bne_iff_ne.mpr c5
            by_cases c6 : (bt a0 x3_1) < 35
            · rw [if_pos c6] at H
              have c6b0 : decide ((bt a0 x3_1) < 35) = true := decide_eq_true c6
              clear c6
              obtain rfl := Option.some.inj H
              have p4 : 0 ≤ (x3_1 : Int) := of_decide_eq_true (by first | (with_reducible assumption) | assumption)
              have q4 : x3_1 < (a0.size : Int) := of_decide_eq_true (by first | (with_reducible assumption) | assumption)
              have hx4 := bt_at a0 x3_1
              replace p4 := eq_true p4
              replace q4 := eq_true q4
              go_wp2
              go_ret
              exact ⟨by first | rfl | (simp; done) | (simp [*]; done) | exact ne_empty _ | exact eq_empty _, by repeat (first | exact Drawn0.refl _ | apply Drawn0.step)⟩
            · rw [if_neg c6] at H
              have c6b0 : decide ((bt a0 x3_1) < 35) = false := decide_eq_false c6
              clear c6
              by_cases c7 : (bt a0 x3_1) = 127
              · rw [if_pos c7] at H
                have c7b0 : ((bt a0 x3_1) == 127) = true := beq_iff_eq.mpr c7
                have c7b1 : ((bt a0 x3_1) != 127) = false := bne_eq_false_iff_eq.mpr c7
                clear c7
                obtain rfl := Option.some.inj H
                have p4 : 0 ≤ (x3_1 : Int) := of_decide_eq_true (by first | (with_reducible assumption) | assumption)
                have q4 : x3_1 < (a0.size : Int) := of_decide_eq_true (by first | (with_reducible assumption) | assumption)
                have hx4 := bt_at a0 x3_1
                replace p4 := eq_true p4
                replace q4 := eq_true q4
                go_wp2
                go_ret
                exact ⟨by first | rfl | (simp; done) | (simp [*]; done) | exact ne_empty _ | exact eq_empty _, by repeat (first | exact Drawn0.refl _ | apply Drawn0.step)⟩
              · rw [if_neg c7] at H
                have c7b0 : ((bt a0 x3_1) == 127) = false := beq_eq_false_iff_ne.mpr c7
                have c7b1 : ((bt a0 x3_1) != 127) = true := bne_iff_ne.mpr c7
                have H' := Aside0.mk H
                clear H
                have p4 : 0 ≤ (x3_1 : Int) := of_decide_eq_true (by first | (with_reducible assumption) | assumption)
                have q4 : x3_1 < (a0.size : Int) := of_decide_eq_true (by first | (with_reducible assumption) | assumption)
                have hx4 := bt_at a0 x3_1
                replace p4 := eq_true p4
                replace q4 := eq_true q4
                go_wp2
                go_roundg k1
                case measure => have := HK1.out; omega
                case rel => exact ⟨(wrap64 (x3_1 + 1)), (by first | rfl | (simp; done) | (simp [*]; done)), H', ⟨by have := HK1.out; omega⟩, by repeat (first | exact Drawn0.refl _ | apply Drawn0.step)⟩
        · rw [if_neg c3] at H
          exact absurd H (by simp)
      · rw [if_neg c2] at H
        have c2b0 : decide (x3_1 < (a0.size : Int)) = false := decide_eq_false c2
        clear c2
        obtain rfl := Option.some.inj H
        go_wp2
        go_ret
        exact ⟨by first | rfl | (simp; done) | (simp [*]; done) | exact ne_empty _ | exact eq_empty _, by repeat (first | exact Drawn0.refl _ | apply Drawn0.step)⟩
end Go.Proofs.Ytahoibanpplhbaa.PAll
namespace Go.Proofs.Ytahoibanpplhbaa.PAll
open Go.RowKit Go.Proofs.Ytahoibanpplhbaa.Xw Go.Proofs.YtahoibanpplhbaaW.PrintWords Go.Proofs.YtahoibanpplhbaaW.PrintLast Go.Proofs.YtahoibanpplhbaaW.PrintMore
attribute [local go_sem] max2_int min2_int max_two min_two max_three min_three max_four min_four   -- for this text's walks alone
set_option linter.unusedVariables false
set_option linter.unusedSimpArgs false
theorem eqA51 (d : Nat) (w : World) (x0 y0 : Bool) (x1 y1 : ByteArray) :
    (Op.equalIn (d + 2) 51 (.agg #[.bool x0, .string x1]) (.agg #[.bool y0, .string y1])).run Try.prog w = .ok (x0 == y0 && (x1.toList == y1.toList)) w := by
  refine eqA_of Try.underlying51 (by kernel_rfl) ?_
  refine eqf_cons (by rfl) (by go_simp; rfl) (by go_simp; rfl) (by go_simp) ?_
  exact eqf_last (by rfl) (by go_simp; rfl) (by go_simp; rfl) (by go_simp)
end Go.Proofs.Ytahoibanpplhbaa.PAll
namespace Go.Proofs.Ytahoibanpplhbaa.PAll
open Go.RowKit Go.Proofs.Ytahoibanpplhbaa.Xw Go.Proofs.YtahoibanpplhbaaW.PrintWords Go.Proofs.YtahoibanpplhbaaW.PrintLast Go.Proofs.YtahoibanpplhbaaW.PrintMore
attribute [local go_sem] max2_int min2_int max_two min_two max_three min_three max_four min_four   -- for this text's walks alone
set_option linter.unusedVariables false
set_option linter.unusedSimpArgs false
mutual
def spenceref01_Trim.j1 : Nat → ByteArray → Bool → Option (ByteArray)
  | 0, _, _ => none
  | k + 1, x0, x1 => spenceref01_Trim.l1 k x0 x1
def spenceref01_Trim.l1 : Nat → ByteArray → Bool → Option (ByteArray)
  | 0, _, _ => none
  | k + 1, x0, x1 => if x1 = true then (some x0) else (if (x0.size : Int) > 0 then (if 0 < (x0.size : Int) then ((spenceref01_Blank.f (bt x0 0)).bind fun t282 => (if t282 = true then (if 1 ≤ (x0.size : Int) then (spenceref01_Trim.l1 k (x0.extract 1 x0.size) x1) else (none)) else (some x0))) else (none)) else (some x0))
def spenceref01_Trim.l0 : Nat → ByteArray → Bool → Option (ByteArray)
  | 0, _, _ => none
  | k + 1, x0, x1 => if (x0.size : Int) > 0 then (if 0 ≤ (wrap64 ((x0.size : Int) - 1)) then (if (wrap64 ((x0.size : Int) - 1)) < (x0.size : Int) then ((spenceref01_Blank.f (bt x0 (wrap64 ((x0.size : Int) - 1)))).bind fun t281 => (if t281 = true then (if (wrap64 ((x0.size : Int) - 1)) ≤ (x0.size : Int) then (spenceref01_Trim.l0 k (x0.extract 0 ((wrap64 ((x0.size : Int) - 1)) : Int).toNat) x1) else (none)) else (spenceref01_Trim.j1 k x0 x1))) else (none)) else (none)) else (spenceref01_Trim.j1 k x0 x1)
end
def spenceref01_Trim.f (k : Nat) (a0 : ByteArray) (a1 : Bool) : Option (ByteArray) := spenceref01_Trim.l0 k a0 a1
theorem spenceref01_Trim.mono_l : ∀ k, (∀ y0 y1, LeO (spenceref01_Trim.j1 k y0 y1) (spenceref01_Trim.j1 (k + 1) y0 y1)) ∧ (∀ y0 y1, LeO (spenceref01_Trim.l1 k y0 y1) (spenceref01_Trim.l1 (k + 1) y0 y1)) ∧ (∀ y0 y1, LeO (spenceref01_Trim.l0 k y0 y1) (spenceref01_Trim.l0 (k + 1) y0 y1))
  | 0 => ⟨fun _ _ r h => by simp [spenceref01_Trim.j1] at h, fun _ _ r h => by simp [spenceref01_Trim.l1] at h, fun _ _ r h => by simp [spenceref01_Trim.l0] at h⟩
  | k + 1 => by
    obtain ⟨ih0, ih1, ih2⟩ := spenceref01_Trim.mono_l k
    refine ⟨?_, ?_, ?_⟩
    · intro y0 y1
      unfold spenceref01_Trim.j1
      repeat' first
      | (with_reducible exact ih0 _ _)
      | (with_reducible exact ih1 _ _)
      | (with_reducible exact ih2 _ _)
      | (with_reducible exact LeO.refl _)
      | (with_reducible exact LeO.none _)
      | (with_reducible refine LeO.ite ?_ ?_)
      | (with_reducible refine LeO.bind ?_ (fun _ => ?_))
      | exact ih0 _ _
      | exact ih1 _ _
      | exact ih2 _ _
      | exact LeO.none _
      | refine LeO.ite ?_ ?_
      | refine LeO.bind ?_ (fun _ => ?_)
    · intro y0 y1
      unfold spenceref01_Trim.l1
      repeat' first
      | (with_reducible exact ih0 _ _)
      | (with_reducible exact ih1 _ _)
      | (with_reducible exact ih2 _ _)
      | (with_reducible exact LeO.refl _)
      | (with_reducible exact LeO.none _)
      | (with_reducible refine LeO.ite ?_ ?_)
      | (with_reducible refine LeO.bind ?_ (fun _ => ?_))
      | exact ih0 _ _
      | exact ih1 _ _
      | exact ih2 _ _
      | exact LeO.none _
      | refine LeO.ite ?_ ?_
      | refine LeO.bind ?_ (fun _ => ?_)
    · intro y0 y1
      unfold spenceref01_Trim.l0
      repeat' first
      | (with_reducible exact ih0 _ _)
      | (with_reducible exact ih1 _ _)
      | (with_reducible exact ih2 _ _)
      | (with_reducible exact LeO.refl _)
      | (with_reducible exact LeO.none _)
      | (with_reducible refine LeO.ite ?_ ?_)
      | (with_reducible refine LeO.bind ?_ (fun _ => ?_))
      | exact ih0 _ _
      | exact ih1 _ _
      | exact ih2 _ _
      | exact LeO.none _
      | refine LeO.ite ?_ ?_
      | refine LeO.bind ?_ (fun _ => ?_)
theorem spenceref01_Trim.mono : ∀ a0 a1 k, LeO (spenceref01_Trim.f k a0 a1) (spenceref01_Trim.f (k + 1) a0 a1) := by
  intro a0 a1 k
  obtain ⟨ih0, ih1, ih2⟩ := spenceref01_Trim.mono_l k
  unfold spenceref01_Trim.f
  repeat' first
      | (with_reducible exact ih0 _ _)
      | (with_reducible exact ih1 _ _)
      | (with_reducible exact ih2 _ _)
      | (with_reducible exact LeO.refl _)
      | (with_reducible exact LeO.none _)
      | (with_reducible refine LeO.ite ?_ ?_)
      | (with_reducible refine LeO.bind ?_ (fun _ => ?_))
      | exact ih0 _ _
      | exact ih1 _ _
      | exact ih2 _ _
      | exact LeO.none _
      | refine LeO.ite ?_ ?_
      | refine LeO.bind ?_ (fun _ => ?_)
end Go.Proofs.Ytahoibanpplhbaa.PAll
namespace Go.Proofs.Ytahoibanpplhbaa.PAll
open Go.RowKit Go.Proofs.Ytahoibanpplhbaa.Xw Go.Proofs.YtahoibanpplhbaaW.PrintWords Go.Proofs.YtahoibanpplhbaaW.PrintLast Go.Proofs.YtahoibanpplhbaaW.PrintMore
attribute [local go_sem] max2_int min2_int max_two min_two max_three min_three max_four min_four   -- for this text's walks alone
set_option linter.unusedVariables false
set_option linter.unusedSimpArgs false
def spenceref01_List.l0 : Nat → List ByteArray → List ByteArray → List ByteArray → Int → Int → Option (List ByteArray × Bool)
  | 0, _, _, _, _, _ => none
  | k + 1, x0, x4, x8, x9, x10 => if x10 < x9 then (if 0 ≤ x10 then (if x10 < (x8.length : Int) then ((spenceref01_Trim.f k (rdOf ByteArray.empty x8 x10) false).bind fun t284 => (if t284.toList = ([] : List UInt8) then (if (x0.length : Int) = 1 then (if (rdOf ByteArray.empty x8 x10).toList = ([] : List UInt8) then (spenceref01_List.l0 k x0 x4 x8 x9 (wrap64 (x10 + 1))) else (some (([] : List ByteArray), false))) else (spenceref01_List.l0 k x0 x4 x8 x9 (wrap64 (x10 + 1)))) else (if x10 = 0 then (if 0 < ((rdOf ByteArray.empty x8 x10).size : Int) then ((spenceref01_Blank.f (bt (rdOf ByteArray.empty x8 x10) 0)).bind fun t285 => (if t285 = true then (some (([] : List ByteArray), false)) else (if x10 = (wrap64 ((x0.length : Int) - 1)) then (if 0 ≤ (wrap64 (((rdOf ByteArray.empty x8 x10).size : Int) - 1)) then (if (wrap64 (((rdOf ByteArray.empty x8 x10).size : Int) - 1)) < ((rdOf ByteArray.empty x8 x10).size : Int) then ((spenceref01_Blank.f (bt (rdOf ByteArray.empty x8 x10) (wrap64 (((rdOf ByteArray.empty x8 x10).size : Int) - 1)))).bind fun t286 => (if t286 = true then (some (([] : List ByteArray), false)) else (if x4.length < 8796093022208 then (spenceref01_List.l0 k x0 (x4 ++ [t284]) x8 x9 (wrap64 (x10 + 1))) else (none)))) else (none)) else (none)) else (if x4.length < 8796093022208 then (spenceref01_List.l0 k x0 (x4 ++ [t284]) x8 x9 (wrap64 (x10 + 1))) else (none))))) else (none)) else (if x10 = (wrap64 ((x0.length : Int) - 1)) then (if 0 ≤ (wrap64 (((rdOf ByteArray.empty x8 x10).size : Int) - 1)) then (if (wrap64 (((rdOf ByteArray.empty x8 x10).size : Int) - 1)) < ((rdOf ByteArray.empty x8 x10).size : Int) then ((spenceref01_Blank.f (bt (rdOf ByteArray.empty x8 x10) (wrap64 (((rdOf ByteArray.empty x8 x10).size : Int) - 1)))).bind fun t293 => (if t293 = true then (some (([] : List ByteArray), false)) else (if x4.length < 8796093022208 then (spenceref01_List.l0 k x0 (x4 ++ [t284]) x8 x9 (wrap64 (x10 + 1))) else (none)))) else (none)) else (none)) else (if x4.length < 8796093022208 then (spenceref01_List.l0 k x0 (x4 ++ [t284]) x8 x9 (wrap64 (x10 + 1))) else (none)))))) else (none)) else (none)) else (some (x4, true))
def spenceref01_List.f (k : Nat) (l0 : List ByteArray) : Option (List ByteArray × Bool) := spenceref01_List.l0 k l0 ([] : List ByteArray) l0 (l0.length : Int) 0
theorem spenceref01_List.mono_l : ∀ k, (∀ y0 y1 y2 y3 y4, LeO (spenceref01_List.l0 k y0 y1 y2 y3 y4) (spenceref01_List.l0 (k + 1) y0 y1 y2 y3 y4))
  | 0 => fun _ _ _ _ _ r h => by simp [spenceref01_List.l0] at h
  | k + 1 => by
    have ih0 := spenceref01_List.mono_l k
    · intro y0 y1 y2 y3 y4
      unfold spenceref01_List.l0
      repeat' first
      | (with_reducible exact ih0 _ _ _ _ _)
      | (with_reducible exact spenceref01_Trim.mono _ _ _)
      | (with_reducible exact LeO.refl _)
      | (with_reducible exact LeO.none _)
      | (with_reducible refine LeO.ite ?_ ?_)
      | (with_reducible refine LeO.bind ?_ (fun _ => ?_))
      | exact ih0 _ _ _ _ _
      | exact spenceref01_Trim.mono _ _ _
      | exact LeO.none _
      | refine LeO.ite ?_ ?_
      | refine LeO.bind ?_ (fun _ => ?_)
theorem spenceref01_List.mono : ∀ a0 k, LeO (spenceref01_List.f k a0) (spenceref01_List.f (k + 1) a0) := by
  intro a0 k
  have ih0 := spenceref01_List.mono_l k
  unfold spenceref01_List.f
  repeat' first
      | (with_reducible exact ih0 _ _ _ _ _)
      | (with_reducible exact spenceref01_Trim.mono _ _ _)
      | (with_reducible exact LeO.refl _)
      | (with_reducible exact LeO.none _)
      | (with_reducible refine LeO.ite ?_ ?_)
      | (with_reducible refine LeO.bind ?_ (fun _ => ?_))
      | exact ih0 _ _ _ _ _
      | exact spenceref01_Trim.mono _ _ _
      | exact LeO.none _
      | refine LeO.ite ?_ ?_
      | refine LeO.bind ?_ (fun _ => ?_)
end Go.Proofs.Ytahoibanpplhbaa.PAll
namespace Go.Proofs.Ytahoibanpplhbaa.PAll
open Go.RowKit Go.Proofs.Ytahoibanpplhbaa.Xw Go.Proofs.YtahoibanpplhbaaW.PrintWords Go.Proofs.YtahoibanpplhbaaW.PrintLast Go.Proofs.YtahoibanpplhbaaW.PrintMore
attribute [local go_sem] max2_int min2_int max_two min_two max_three min_three max_four min_four   -- for this text's walks alone
set_option linter.unusedVariables false
set_option linter.unusedSimpArgs false
mutual
def spenceref01_Pieces.l0 : Nat → ByteArray → Bool → List ByteArray → Bool → Int → Option (List ByteArray)
  | 0, _, _, _, _, _ => none
  | k + 1, x0, x1, x5, x6, x7 => if x7 < (x0.size : Int) then (if 0 ≤ x7 then (if (bt x0 x7) = 34 then (spenceref01_Pieces.j1 k x0 x1 x5 x6 x7 x1) else (spenceref01_Pieces.j1 k x0 x1 x5 x6 x7 false)) else (none)) else (some x5)
def spenceref01_Pieces.j1 : Nat → ByteArray → Bool → List ByteArray → Bool → Int → Bool → Option (List ByteArray)
  | 0, _, _, _, _, _, _ => none
  | k + 1, x0, x1, x5, x6, x7, x21 => if x21 = true then (if 0 ≤ x7 then (if x7 < (x0.size : Int) then (if (bt x0 x7) = 44 then (if x6 = true then (if x5.length < 8796093022208 then (spenceref01_Pieces.l0 k x0 x1 (x5 ++ [(⟨#[]⟩ : ByteArray)]) (!x6) (wrap64 (x7 + 1))) else (none)) else (if 0 ≤ (wrap64 ((x5.length : Int) - 1)) then (if (wrap64 ((x5.length : Int) - 1)) < (x5.length : Int) then ((some (([bt x0 x7] : List Int) : List Int)).bind fun y307 => (if (rdOf ByteArray.empty x5 (wrap64 ((x5.length : Int) - 1))).size + ((strOfNums y307).size) ≤ 9223372036854775807 then (spenceref01_Pieces.l0 k x0 x1 (x5.set ((wrap64 ((x5.length : Int) - 1)) : Int).toNat ((rdOf ByteArray.empty x5 (wrap64 ((x5.length : Int) - 1))) ++ (strOfNums y307))) (!x6) (wrap64 (x7 + 1))) else (none))) else (none)) else (none))) else (if 0 ≤ (wrap64 ((x5.length : Int) - 1)) then (if (wrap64 ((x5.length : Int) - 1)) < (x5.length : Int) then ((some (([bt x0 x7] : List Int) : List Int)).bind fun y312 => (if (rdOf ByteArray.empty x5 (wrap64 ((x5.length : Int) - 1))).size + ((strOfNums y312).size) ≤ 9223372036854775807 then (spenceref01_Pieces.l0 k x0 x1 (x5.set ((wrap64 ((x5.length : Int) - 1)) : Int).toNat ((rdOf ByteArray.empty x5 (wrap64 ((x5.length : Int) - 1))) ++ (strOfNums y312))) (!x6) (wrap64 (x7 + 1))) else (none))) else (none)) else (none))) else (none)) else (none)) else (if 0 ≤ x7 then (if x7 < (x0.size : Int) then (if (bt x0 x7) = 44 then (if x6 = true then (if 0 ≤ (wrap64 ((x5.length : Int) - 1)) then (if (wrap64 ((x5.length : Int) - 1)) < (x5.length : Int) then ((some (([bt x0 x7] : List Int) : List Int)).bind fun y317 => (if (rdOf ByteArray.empty x5 (wrap64 ((x5.length : Int) - 1))).size + ((strOfNums y317).size) ≤ 9223372036854775807 then (spenceref01_Pieces.l0 k x0 x1 (x5.set ((wrap64 ((x5.length : Int) - 1)) : Int).toNat ((rdOf ByteArray.empty x5 (wrap64 ((x5.length : Int) - 1))) ++ (strOfNums y317))) x6 (wrap64 (x7 + 1))) else (none))) else (none)) else (none)) else (if x5.length < 8796093022208 then (spenceref01_Pieces.l0 k x0 x1 (x5 ++ [(⟨#[]⟩ : ByteArray)]) x6 (wrap64 (x7 + 1))) else (none))) else (if 0 ≤ (wrap64 ((x5.length : Int) - 1)) then (if (wrap64 ((x5.length : Int) - 1)) < (x5.length : Int) then ((some (([bt x0 x7] : List Int) : List Int)).bind fun y325 => (if (rdOf ByteArray.empty x5 (wrap64 ((x5.length : Int) - 1))).size + ((strOfNums y325).size) ≤ 9223372036854775807 then (spenceref01_Pieces.l0 k x0 x1 (x5.set ((wrap64 ((x5.length : Int) - 1)) : Int).toNat ((rdOf ByteArray.empty x5 (wrap64 ((x5.length : Int) - 1))) ++ (strOfNums y325))) x6 (wrap64 (x7 + 1))) else (none))) else (none)) else (none))) else (none)) else (none))
end
def spenceref01_Pieces.f (k : Nat) (a0 : ByteArray) (a1 : Bool) : Option (List ByteArray) := spenceref01_Pieces.l0 k a0 a1 (([(⟨#[]⟩ : ByteArray)] : List ByteArray)) false 0
theorem spenceref01_Pieces.mono_l : ∀ k, (∀ y0 y1 y2 y3 y4, LeO (spenceref01_Pieces.l0 k y0 y1 y2 y3 y4) (spenceref01_Pieces.l0 (k + 1) y0 y1 y2 y3 y4)) ∧ (∀ y0 y1 y2 y3 y4 y5, LeO (spenceref01_Pieces.j1 k y0 y1 y2 y3 y4 y5) (spenceref01_Pieces.j1 (k + 1) y0 y1 y2 y3 y4 y5))
  | 0 => ⟨fun _ _ _ _ _ r h => by simp [spenceref01_Pieces.l0] at h, fun _ _ _ _ _ _ r h => by simp [spenceref01_Pieces.j1] at h⟩
  | k + 1 => by
    obtain ⟨ih0, ih1⟩ := spenceref01_Pieces.mono_l k
    refine ⟨?_, ?_⟩
    · intro y0 y1 y2 y3 y4
      unfold spenceref01_Pieces.l0
      repeat' first
      | (with_reducible exact ih0 _ _ _ _ _)
      | (with_reducible exact ih1 _ _ _ _ _ _)
      | (with_reducible exact LeO.refl _)
      | (with_reducible exact LeO.none _)
      | (with_reducible refine LeO.ite ?_ ?_)
      | (with_reducible refine LeO.bind ?_ (fun _ => ?_))
      | exact ih0 _ _ _ _ _
      | exact ih1 _ _ _ _ _ _
      | exact LeO.none _
      | refine LeO.ite ?_ ?_
      | refine LeO.bind ?_ (fun _ => ?_)
    · intro y0 y1 y2 y3 y4 y5
      unfold spenceref01_Pieces.j1
      repeat' first
      | (with_reducible exact ih0 _ _ _ _ _)
      | (with_reducible exact ih1 _ _ _ _ _ _)
      | (with_reducible exact LeO.refl _)
      | (with_reducible exact LeO.none _)
      | (with_reducible refine LeO.ite ?_ ?_)
      | (with_reducible refine LeO.bind ?_ (fun _ => ?_))
      | exact ih0 _ _ _ _ _
      | exact ih1 _ _ _ _ _ _
      | exact LeO.none _
      | refine LeO.ite ?_ ?_
      | refine LeO.bind ?_ (fun _ => ?_)
theorem spenceref01_Pieces.mono : ∀ a0 a1 k, LeO (spenceref01_Pieces.f k a0 a1) (spenceref01_Pieces.f (k + 1) a0 a1) := by
  intro a0 a1 k
  obtain ⟨ih0, ih1⟩ := spenceref01_Pieces.mono_l k
  unfold spenceref01_Pieces.f
  repeat' first
      | (with_reducible exact ih0 _ _ _ _ _)
      | (with_reducible exact ih1 _ _ _ _ _ _)
      | (with_reducible exact LeO.refl _)
      | (with_reducible exact LeO.none _)
      | (with_reducible refine LeO.ite ?_ ?_)
      | (with_reducible refine LeO.bind ?_ (fun _ => ?_))
      | exact ih0 _ _ _ _ _
      | exact ih1 _ _ _ _ _ _
      | exact LeO.none _
      | refine LeO.ite ?_ ?_
      | refine LeO.bind ?_ (fun _ => ?_)
end Go.Proofs.Ytahoibanpplhbaa.PAll
namespace Go.Proofs.Ytahoibanpplhbaa.PAll
open Go.RowKit Go.Proofs.Ytahoibanpplhbaa.Xw Go.Proofs.YtahoibanpplhbaaW.PrintWords Go.Proofs.YtahoibanpplhbaaW.PrintLast Go.Proofs.YtahoibanpplhbaaW.PrintMore
attribute [local go_sem] max2_int min2_int max_two min_two max_three min_three max_four min_four   -- for this text's walks alone
set_option linter.unusedVariables false
set_option linter.unusedSimpArgs false
mutual
def spenceref04_ETag.j0 : Nat → ByteArray → Bool → Option (Bool × ByteArray × Int)
  | 0, _, _ => none
  | k + 1, x0, x4 => if x4 = true then (if 2 ≤ (x0.size : Int) then (spenceref04_ETag.j1 k (x0.extract 2 x0.size) x4) else (none)) else (spenceref04_ETag.j1 k x0 x4)
def spenceref04_ETag.j1 : Nat → ByteArray → Bool → Option (Bool × ByteArray × Int)
  | 0, _, _ => none
  | k + 1, x0, x4 => if (x0.size : Int) < 2 then (spenceref04_ETag.j2 k x0 x4 true) else (if 0 < (x0.size : Int) then (if (bt x0 0) = 34 then (if 0 ≤ (wrap64 ((x0.size : Int) - 1)) then (if (wrap64 ((x0.size : Int) - 1)) < (x0.size : Int) then (if (bt x0 (wrap64 ((x0.size : Int) - 1))) = 34 then (if 1 ≤ (wrap64 ((x0.size : Int) - 1)) then (if (wrap64 ((x0.size : Int) - 1)) ≤ (x0.size : Int) then ((spenceref04_Tag.f k (x0.extract 1 ((wrap64 ((x0.size : Int) - 1)) : Int).toNat)).bind fun t330 => (spenceref04_ETag.j2 k x0 x4 (!t330))) else (none)) else (none)) else (spenceref04_ETag.j2 k x0 x4 true)) else (none)) else (none)) else (spenceref04_ETag.j2 k x0 x4 true)) else (none))
def spenceref04_ETag.j2 : Nat → ByteArray → Bool → Bool → Option (Bool × ByteArray × Int)
  | 0, _, _, _ => none
  | k + 1, x0, x4, x45 => if x45 = true then (some (false, (⟨#[]⟩ : ByteArray), 3)) else (if (x0.size : Int) > 42 then (some (false, (⟨#[]⟩ : ByteArray), 10)) else (if 1 ≤ (wrap64 ((x0.size : Int) - 1)) then (if (wrap64 ((x0.size : Int) - 1)) ≤ (x0.size : Int) then (some (x4, x0.extract 1 ((wrap64 ((x0.size : Int) - 1)) : Int).toNat, 0)) else (none)) else (none)))
end
def spenceref04_ETag.f (k : Nat) (a0 : ByteArray) : Option (Bool × ByteArray × Int) := if (a0.size : Int) ≥ 2 then (if 0 < (a0.size : Int) then (if (bt a0 0) = 87 then (if 1 < (a0.size : Int) then (spenceref04_ETag.j0 k a0 ((bt a0 1) == 47)) else (none)) else (spenceref04_ETag.j0 k a0 false)) else (none)) else (spenceref04_ETag.j0 k a0 false)
theorem spenceref04_ETag.mono_l : ∀ k, (∀ y0 y1, LeO (spenceref04_ETag.j0 k y0 y1) (spenceref04_ETag.j0 (k + 1) y0 y1)) ∧ (∀ y0 y1, LeO (spenceref04_ETag.j1 k y0 y1) (spenceref04_ETag.j1 (k + 1) y0 y1)) ∧ (∀ y0 y1 y2, LeO (spenceref04_ETag.j2 k y0 y1 y2) (spenceref04_ETag.j2 (k + 1) y0 y1 y2))
  | 0 => ⟨fun _ _ r h => by simp [spenceref04_ETag.j0] at h, fun _ _ r h => by simp [spenceref04_ETag.j1] at h, fun _ _ _ r h => by simp [spenceref04_ETag.j2] at h⟩
  | k + 1 => by
    obtain ⟨ih0, ih1, ih2⟩ := spenceref04_ETag.mono_l k
    refine ⟨?_, ?_, ?_⟩
    · intro y0 y1
      unfold spenceref04_ETag.j0
      repeat' first
      | (with_reducible exact ih0 _ _)
      | (with_reducible exact ih1 _ _)
      | (with_reducible exact ih2 _ _ _)
      | (with_reducible exact spenceref04_Tag.mono _ _)
      | (with_reducible exact LeO.refl _)
      | (with_reducible exact LeO.none _)
      | (with_reducible refine LeO.ite ?_ ?_)
      | (with_reducible refine LeO.bind ?_ (fun _ => ?_))
      | exact ih0 _ _
      | exact ih1 _ _
      | exact ih2 _ _ _
      | exact spenceref04_Tag.mono _ _
      | exact LeO.none _
      | refine LeO.ite ?_ ?_
      | refine LeO.bind ?_ (fun _ => ?_)
    · intro y0 y1
      unfold spenceref04_ETag.j1
      repeat' first
      | (with_reducible exact ih0 _ _)
      | (with_reducible exact ih1 _ _)
      | (with_reducible exact ih2 _ _ _)
      | (with_reducible exact spenceref04_Tag.mono _ _)
      | (with_reducible exact LeO.refl _)
      | (with_reducible exact LeO.none _)
      | (with_reducible refine LeO.ite ?_ ?_)
      | (with_reducible refine LeO.bind ?_ (fun _ => ?_))
      | exact ih0 _ _
      | exact ih1 _ _
      | exact ih2 _ _ _
      | exact spenceref04_Tag.mono _ _
      | exact LeO.none _
      | refine LeO.ite ?_ ?_
      | refine LeO.bind ?_ (fun _ => ?_)
    · intro y0 y1 y2
      unfold spenceref04_ETag.j2
      repeat' first
      | (with_reducible exact ih0 _ _)
      | (with_reducible exact ih1 _ _)
      | (with_reducible exact ih2 _ _ _)
      | (with_reducible exact spenceref04_Tag.mono _ _)
      | (with_reducible exact LeO.refl _)
      | (with_reducible exact LeO.none _)
      | (with_reducible refine LeO.ite ?_ ?_)
      | (with_reducible refine LeO.bind ?_ (fun _ => ?_))
      | exact ih0 _ _
      | exact ih1 _ _
      | exact ih2 _ _ _
      | exact spenceref04_Tag.mono _ _
      | exact LeO.none _
      | refine LeO.ite ?_ ?_
      | refine LeO.bind ?_ (fun _ => ?_)
theorem spenceref04_ETag.mono : ∀ a0 k, LeO (spenceref04_ETag.f k a0) (spenceref04_ETag.f (k + 1) a0) := by
  intro a0 k
  obtain ⟨ih0, ih1, ih2⟩ := spenceref04_ETag.mono_l k
  unfold spenceref04_ETag.f
  repeat' first
      | (with_reducible exact ih0 _ _)
      | (with_reducible exact ih1 _ _)
      | (with_reducible exact ih2 _ _ _)
      | (with_reducible exact spenceref04_Tag.mono _ _)
      | (with_reducible exact LeO.refl _)
      | (with_reducible exact LeO.none _)
      | (with_reducible refine LeO.ite ?_ ?_)
      | (with_reducible refine LeO.bind ?_ (fun _ => ?_))
      | exact ih0 _ _
      | exact ih1 _ _
      | exact ih2 _ _ _
      | exact spenceref04_Tag.mono _ _
      | exact LeO.none _
      | refine LeO.ite ?_ ?_
      | refine LeO.bind ?_ (fun _ => ?_)
end Go.Proofs.Ytahoibanpplhbaa.PAll
namespace Go.Proofs.Ytahoibanpplhbaa.PAll
open Go.RowKit Go.Proofs.Ytahoibanpplhbaa.Xw Go.Proofs.YtahoibanpplhbaaW.PrintWords Go.Proofs.YtahoibanpplhbaaW.PrintLast Go.Proofs.YtahoibanpplhbaaW.PrintMore
attribute [local go_sem] max2_int min2_int max_two min_two max_three min_three max_four min_four   -- for this text's walks alone
set_option linter.unusedVariables false
set_option linter.unusedSimpArgs false
attribute [local go_sem high] eqA51
mutual
def spenceref04_Cond.j0 : Nat → List ByteArray → Bool → Option (Bool × (List (S51)) × Int)
  | 0, _, _ => none
  | k + 1, x5, x28 => if x28 = true then (some (false, ([] : List (S51)), 3)) else (spenceref04_Cond.l0 k ([] : List (S51)) x5 (x5.length : Int) 0)
def spenceref04_Cond.l0 : Nat → List (S51) → List ByteArray → Int → Int → Option (Bool × (List (S51)) × Int)
  | 0, _, _, _, _ => none
  | k + 1, x7, x29, x30, x31 => if x31 < x30 then (if 0 ≤ x31 then (if x31 < (x29.length : Int) then ((spenceref04_ETag.f k (rdOf ByteArray.empty x29 x31)).bind fun bt340 => (if bt340.2.2 = 0 then (if x7.length < 5864062014805 then (spenceref04_Cond.l0 k (x7 ++ [(⟨bt340.1, bt340.2.1⟩ : S51)]) x29 x30 (wrap64 (x31 + 1))) else (none)) else (some (false, ([] : List (S51)), bt340.2.2)))) else (none)) else (none)) else (if (x7.length : Int) > 16 then (some (false, ([] : List (S51)), 10)) else (some (false, x7, 0)))
end
def spenceref04_Cond.f (k : Nat) (a0 : ByteArray) : Option (Bool × (List (S51)) × Int) := (spenceref01_Trim.f k a0 false).bind fun t331 => (if t331.toList = ([42] : List UInt8) then (some (true, ([] : List (S51)), 0)) else ((spenceref01_Pieces.f k t331 true).bind fun t332 => ((spenceref01_List.f k t332).bind fun bt335 => (if bt335.2 = true then (spenceref04_Cond.j0 k bt335.1 ((bt335.1.length : Int) == 0)) else (spenceref04_Cond.j0 k bt335.1 true)))))
theorem spenceref04_Cond.mono_l : ∀ k, (∀ y0 y1, LeO (spenceref04_Cond.j0 k y0 y1) (spenceref04_Cond.j0 (k + 1) y0 y1)) ∧ (∀ y0 y1 y2 y3, LeO (spenceref04_Cond.l0 k y0 y1 y2 y3) (spenceref04_Cond.l0 (k + 1) y0 y1 y2 y3))
  | 0 => ⟨fun _ _ r h => by simp [spenceref04_Cond.j0] at h, fun _ _ _ _ r h => by simp [spenceref04_Cond.l0] at h⟩
  | k + 1 => by
    obtain ⟨ih0, ih1⟩ := spenceref04_Cond.mono_l k
    refine ⟨?_, ?_⟩
    · intro y0 y1
      unfold spenceref04_Cond.j0
      repeat' first
      | (with_reducible exact ih0 _ _)
      | (with_reducible exact ih1 _ _ _ _)
      | (with_reducible exact spenceref01_List.mono _ _)
      | (with_reducible exact spenceref01_Pieces.mono _ _ _)
      | (with_reducible exact spenceref01_Trim.mono _ _ _)
      | (with_reducible exact spenceref04_ETag.mono _ _)
      | (with_reducible exact LeO.refl _)
      | (with_reducible exact LeO.none _)
      | (with_reducible refine LeO.ite ?_ ?_)
      | (with_reducible refine LeO.bind ?_ (fun _ => ?_))
      | exact ih0 _ _
      | exact ih1 _ _ _ _
      | exact spenceref01_List.mono _ _
      | exact spenceref01_Pieces.mono _ _ _
      | exact spenceref01_Trim.mono _ _ _
      | exact spenceref04_ETag.mono _ _
      | exact LeO.none _
      | refine LeO.ite ?_ ?_
      | refine LeO.bind ?_ (fun _ => ?_)
    · intro y0 y1 y2 y3
      unfold spenceref04_Cond.l0
      repeat' first
      | (with_reducible exact ih0 _ _)
      | (with_reducible exact ih1 _ _ _ _)
      | (with_reducible exact spenceref01_List.mono _ _)
      | (with_reducible exact spenceref01_Pieces.mono _ _ _)
      | (with_reducible exact spenceref01_Trim.mono _ _ _)
      | (with_reducible exact spenceref04_ETag.mono _ _)
      | (with_reducible exact LeO.refl _)
      | (with_reducible exact LeO.none _)
      | (with_reducible refine LeO.ite ?_ ?_)
      | (with_reducible refine LeO.bind ?_ (fun _ => ?_))
      | exact ih0 _ _
      | exact ih1 _ _ _ _
      | exact spenceref01_List.mono _ _
      | exact spenceref01_Pieces.mono _ _ _
      | exact spenceref01_Trim.mono _ _ _
      | exact spenceref04_ETag.mono _ _
      | exact LeO.none _
      | refine LeO.ite ?_ ?_
      | refine LeO.bind ?_ (fun _ => ?_)
theorem spenceref04_Cond.mono : ∀ a0 k, LeO (spenceref04_Cond.f k a0) (spenceref04_Cond.f (k + 1) a0) := by
  intro a0 k
  obtain ⟨ih0, ih1⟩ := spenceref04_Cond.mono_l k
  unfold spenceref04_Cond.f
  repeat' first
      | (with_reducible exact ih0 _ _)
      | (with_reducible exact ih1 _ _ _ _)
      | (with_reducible exact spenceref01_List.mono _ _)
      | (with_reducible exact spenceref01_Pieces.mono _ _ _)
      | (with_reducible exact spenceref01_Trim.mono _ _ _)
      | (with_reducible exact spenceref04_ETag.mono _ _)
      | (with_reducible exact LeO.refl _)
      | (with_reducible exact LeO.none _)
      | (with_reducible refine LeO.ite ?_ ?_)
      | (with_reducible refine LeO.bind ?_ (fun _ => ?_))
      | exact ih0 _ _
      | exact ih1 _ _ _ _
      | exact spenceref01_List.mono _ _
      | exact spenceref01_Pieces.mono _ _ _
      | exact spenceref01_Trim.mono _ _ _
      | exact spenceref04_ETag.mono _ _
      | exact LeO.none _
      | refine LeO.ite ?_ ?_
      | refine LeO.bind ?_ (fun _ => ?_)
def spencelaw46_same.l0 : Nat → List (S51) → List (S51) → Int → Int → Option (Bool)
  | 0, _, _, _, _ => none
  | k + 1, x0, x1, x12, x13 => if x13 < x12 then (if 0 ≤ x13 then (if x13 < (x0.length : Int) then (if x13 < (x1.length : Int) then (if (!(((rd_T51 x0 x13).f0) == ((rd_T51 x1 x13).f0)) || (!((((rd_T51 x0 x13).f1).toList) == (((rd_T51 x1 x13).f1).toList)))) = true then (some false) else (spencelaw46_same.l0 k x0 x1 x12 (wrap64 (x13 + 1)))) else (none)) else (none)) else (none)) else (some true)
def spencelaw46_same.f (k : Nat) (l0 : List (S51)) (l1 : List (S51)) : Option (Bool) := if (l0.length : Int) = (l1.length : Int) then (spencelaw46_same.l0 k l0 l1 (l0.length : Int) 0) else (some false)
theorem spencelaw46_same.mono_l : ∀ k, (∀ y0 y1 y2 y3, LeO (spencelaw46_same.l0 k y0 y1 y2 y3) (spencelaw46_same.l0 (k + 1) y0 y1 y2 y3))
  | 0 => fun _ _ _ _ r h => by simp [spencelaw46_same.l0] at h
  | k + 1 => by
    have ih0 := spencelaw46_same.mono_l k
    · intro y0 y1 y2 y3
      unfold spencelaw46_same.l0
      repeat' first
      | (with_reducible exact ih0 _ _ _ _)
      | (with_reducible exact LeO.refl _)
      | (with_reducible exact LeO.none _)
      | (with_reducible refine LeO.ite ?_ ?_)
      | (with_reducible refine LeO.bind ?_ (fun _ => ?_))
      | exact ih0 _ _ _ _
      | exact LeO.none _
      | refine LeO.ite ?_ ?_
      | refine LeO.bind ?_ (fun _ => ?_)
theorem spencelaw46_same.mono : ∀ a0 a1 k, LeO (spencelaw46_same.f k a0 a1) (spencelaw46_same.f (k + 1) a0 a1) := by
  intro a0 a1 k
  have ih0 := spencelaw46_same.mono_l k
  unfold spencelaw46_same.f
  repeat' first
      | (with_reducible exact ih0 _ _ _ _)
      | (with_reducible exact LeO.refl _)
      | (with_reducible exact LeO.none _)
      | (with_reducible refine LeO.ite ?_ ?_)
      | (with_reducible refine LeO.bind ?_ (fun _ => ?_))
      | exact ih0 _ _ _ _
      | exact LeO.none _
      | refine LeO.ite ?_ ?_
      | refine LeO.bind ?_ (fun _ => ?_)
set_option maxHeartbeats 8000000 in
set_option maxRecDepth 100000 in
theorem spencelaw46_same.calls (k : Nat) (A0 : Option Addr) (c0 : Nat) (l0 : List (S51)) (A1 : Option Addr) (c1 : Nat) (l1 : List (S51)) (r : Bool) (w : World) (hr0 : Kd.C k51 w A0 l0.length l0) (hc0 : l0.length ≤ c0) (hr1 : Kd.C k51 w A1 l1.length l1) (hc1 : l1.length ≤ c1) (h : spencelaw46_same.f k l0 l1 = some r) :
    Calls Try.prog 20 #[.slice A0 l0.length c0, .slice A1 l1.length c1] w fun e w' => e = .returned (.bool r) ∧ Drawn0 w w' := by
  have hu51 := Try.underlying51
  have HR0 := Aside0.mk hr0
  have HC0 := Aside0.mk hc0
  clear hr0 hc0
  have HR1 := Aside0.mk hr1
  have HC1 := Aside0.mk hc1
  clear hr1 hc1
  have H : (if (l0.length : Int) = (l1.length : Int) then (spencelaw46_same.l0 k l0 l1 (l0.length : Int) 0) else (some false)) = some r := h
  clear h
  by_cases c3 : (l0.length : Int) = (l1.length : Int)
  · rw [if_pos c3] at H
    have c3b0 : ((l0.length : Int) == (l1.length : Int)) = true := beq_iff_eq.mpr c3
    have c3b1 : ((l0.length : Int) != (l1.length : Int)) = false := bne_eq_false_iff_eq.mpr c3
    have c3b2 : (l0.length == l1.length) = true := by first | simpa using c3 | (simp at c3 ⊢; omega)
    clear c3
    have H' := Aside0.mk H
    clear H
    go_enter Try.func20, Try.ntmps20
    go_wp2
    repeat (go_quiet (fail); try go_wp2)
    go_loopg [13] k (fun kq v13 w' => ∃ (x13_1 : Int), v13 = .int .i64 x13_1 ∧ Aside0 (spencelaw46_same.l0 kq l0 l1 (l0.length : Int) x13_1 = some r) ∧ Aside0 (kq ≤ k) ∧ Drawn0 w w')
    case atStart => exact ⟨(0), (by first | rfl | (simp; done) | (simp [*]; done)), H', ⟨Nat.le_refl _⟩, by repeat (first | exact Drawn0.refl _ | apply Drawn0.step)⟩
    case round =>
      clear H'
      try clear c1
      try clear c2
      try clear p2
      try clear c3
      try clear c3b0
      try clear c3b1
      try clear c3b2
      obtain ⟨x13_1, rfl, HA, HK1, ⟨m1, rfl⟩⟩ := hrel
      cases gk with
      | zero => exact absurd HA.out (by simp [spencelaw46_same.l0])
      | succ k1 =>
        have H := HA.out
        clear HA
        simp only [spencelaw46_same.l0] at H
        by_cases c4 : x13_1 < (l0.length : Int)
        · rw [if_pos c4] at H
          have c4b0 : decide (x13_1 < (l0.length : Int)) = true := decide_eq_true c4
          clear c4
          by_cases c5 : 0 ≤ x13_1
          · rw [if_pos c5] at H
            have c5b0 : decide (0 ≤ x13_1) = true := decide_eq_true c5
            clear c5
            by_cases c6 : x13_1 < (l0.length : Int)
            · rw [if_pos c6] at H
              have c6b0 : decide (x13_1 < (l0.length : Int)) = true := decide_eq_true c6
              clear c6
              by_cases c7 : x13_1 < (l1.length : Int)
              · rw [if_pos c7] at H
                have c7b0 : decide (x13_1 < (l1.length : Int)) = true := decide_eq_true c7
                clear c7
                by_cases c8 : (!(((rd_T51 l0 x13_1).f0) == ((rd_T51 l1 x13_1).f0)) || (!((((rd_T51 l0 x13_1).f1).toList) == (((rd_T51 l1 x13_1).f1).toList)))) = true
                · rw [if_pos c8] at H
                  have c8b0 : (!(((rd_T51 l0 x13_1).f0) == ((rd_T51 l1 x13_1).f0)) || (!((((rd_T51 l0 x13_1).f1).toList) == (((rd_T51 l1 x13_1).f1).toList)))) = true := c8
                  clear c8
                  obtain rfl := Option.some.inj H
                  have p347 : 0 ≤ (x13_1 : Int) := of_decide_eq_true (by first | (with_reducible assumption) | assumption)
                  have q347 : x13_1 < (l0.length : Int) := of_decide_eq_true (by first | (with_reducible assumption) | assumption)
                  obtain ⟨ad347, e347, hx347_0, hx347_1⟩ := at_T51 HR0.out x13_1 p347 q347
                  cases e347
                  replace p347 := eq_true p347
                  replace q347 := eq_true q347
                  have p348 : 0 ≤ (x13_1 : Int) := of_decide_eq_true (by first | (with_reducible assumption) | assumption)
                  have q348 : x13_1 < (l1.length : Int) := of_decide_eq_true (by first | (with_reducible assumption) | assumption)
                  obtain ⟨ad348, e348, hx348_0, hx348_1⟩ := at_T51 HR1.out x13_1 p348 q348
                  cases e348
                  replace p348 := eq_true p348
                  replace q348 := eq_true q348
                  go_wp2
                  repeat (go_quiet (fail); try go_wp2)
                  go_ret
                  exact ⟨by first | rfl | (simp; done) | (simp [*]; done) | exact ne_empty _ | exact eq_empty _, by repeat (first | exact Drawn0.refl _ | apply Drawn0.step)⟩
                · rw [if_neg c8] at H
                  have c8b0 : (!(((rd_T51 l0 x13_1).f0) == ((rd_T51 l1 x13_1).f0)) || (!((((rd_T51 l0 x13_1).f1).toList) == (((rd_T51 l1 x13_1).f1).toList)))) = false := by simpa using c8
                  clear c8
                  have H' := Aside0.mk H
                  clear H
                  have p347 : 0 ≤ (x13_1 : Int) := of_decide_eq_true (by first | (with_reducible assumption) | assumption)
                  have q347 : x13_1 < (l0.length : Int) := of_decide_eq_true (by first | (with_reducible assumption) | assumption)
                  obtain ⟨ad347, e347, hx347_0, hx347_1⟩ := at_T51 HR0.out x13_1 p347 q347
                  cases e347
                  replace p347 := eq_true p347
                  replace q347 := eq_true q347
                  have p348 : 0 ≤ (x13_1 : Int) := of_decide_eq_true (by first | (with_reducible assumption) | assumption)
                  have q348 : x13_1 < (l1.length : Int) := of_decide_eq_true (by first | (with_reducible assumption) | assumption)
                  obtain ⟨ad348, e348, hx348_0, hx348_1⟩ := at_T51 HR1.out x13_1 p348 q348
                  cases e348
                  replace p348 := eq_true p348
                  replace q348 := eq_true q348
                  go_wp2
                  repeat (go_quiet (fail); try go_wp2)
                  go_roundg k1
                  case measure => have := HK1.out; omega
                  case rel => exact ⟨(wrap64 (x13_1 + 1)), (by first | rfl | (simp; done) | (simp [*]; done)), H', ⟨by have := HK1.out; omega⟩, by repeat (first | exact Drawn0.refl _ | apply Drawn0.step)⟩
              · rw [if_neg c7] at H
                exact absurd H (by simp)
            · rw [if_neg c6] at H
              exact absurd H (by simp)
          · rw [if_neg c5] at H
            exact absurd H (by simp)
        · rw [if_neg c4] at H
          have c4b0 : decide (x13_1 < (l0.length : Int)) = false := decide_eq_false c4
          clear c4
          obtain rfl := Option.some.inj H
          go_wp2
          repeat (go_quiet (fail); try go_wp2)
          go_ret
          exact ⟨by first | rfl | (simp; done) | (simp [*]; done) | exact ne_empty _ | exact eq_empty _, by repeat (first | exact Drawn0.refl _ | apply Drawn0.step)⟩
  · rw [if_neg c3] at H
    have c3b0 : ((l0.length : Int) == (l1.length : Int)) = false := beq_eq_false_iff_ne.mpr c3
    have c3b1 : ((l0.length : Int) != (l1.length : Int)) = true := bne_iff_ne.mpr c3
    have c3b2 : (l0.length == l1.length) = false := by first | simpa using c3 | (simp at c3 ⊢; omega)
    obtain rfl := Option.some.inj H
    go_enter Try.func20, Try.ntmps20
    go_wp2
    repeat (go_quiet (fail); try go_wp2)
    go_ret
    exact ⟨by first | rfl | (simp; done) | (simp [*]; done) | exact ne_empty _ | exact eq_empty _, by repeat (first | exact Drawn0.refl _ | apply Drawn0.step)⟩
def spencelaw46_CondParses.f (k : Nat) (a0 : ByteArray) : Option (Bool) := (spencelaw46_awake.f k).bind fun t349 => (if t349 = true then (if (a0.size : Int) > 600 then (some true) else ((cond_Parse.f k a0).bind fun bt350 => ((spenceref04_Cond.f k a0).bind fun bt356 => (if (bt350.1 == bt356.1) = true then ((spencelaw46_same.f k bt350.2.1 bt356.2.1).bind fun t361 => (if t361 = true then (some (bt350.2.2 == bt356.2.2)) else (some false))) else (some false))))) else (some false))
theorem spencelaw46_CondParses.mono : ∀ a0 k, LeO (spencelaw46_CondParses.f k a0) (spencelaw46_CondParses.f (k + 1) a0) := by
  intro a0 k
  unfold spencelaw46_CondParses.f
  repeat' first
      | (with_reducible exact cond_Parse.mono _ _)
      | (with_reducible exact spencelaw46_awake.mono _)
      | (with_reducible exact spencelaw46_same.mono _ _ _)
      | (with_reducible exact spenceref04_Cond.mono _ _)
      | (with_reducible exact LeO.refl _)
      | (with_reducible exact LeO.none _)
      | (with_reducible refine LeO.ite ?_ ?_)
      | (with_reducible refine LeO.bind ?_ (fun _ => ?_))
      | exact cond_Parse.mono _ _
      | exact spencelaw46_awake.mono _
      | exact spencelaw46_same.mono _ _ _
      | exact spenceref04_Cond.mono _ _
      | exact LeO.none _
      | refine LeO.ite ?_ ?_
      | refine LeO.bind ?_ (fun _ => ?_)
end Go.Proofs.Ytahoibanpplhbaa.PAll
namespace Go.Proofs
open Go.Shelf
def Try.lays156_ren : Go.Shelf.Ren := ⟨fun | 156 => 55 | 165 => 70 | 166 => 71 | 169 => 72 | 240 => 77 | 241 => 78 | 276 => 81 | 277 => 82 | n => n, fun | 31 => 67 | 9 => 9 | 3 => 3 | 4 => 4 | 0 => 0 | 20 => 20 | 72 => 96 | 76 => 100 | 70 => 94 | 37 => 85 | 75 => 99 | 127 => 105 | 164 => 106 | 5 => 5 | 80 => 102 | n => n, fun | n => n⟩
theorem Try.lays156 : Go.Proofs.Lays.n156 Try.prog Try.lays156_ren := {
  mixed := by kernel_rfl
  f156 := Try.func55.trans (congrArg some (by kernel_rfl))
  f165 := Try.func70.trans (congrArg some (by kernel_rfl))
  f166 := Try.func71.trans (congrArg some (by kernel_rfl))
  f169 := Try.func72.trans (congrArg some (by kernel_rfl))
  f240 := Try.func77.trans (congrArg some (by kernel_rfl))
  f241 := Try.func78.trans (congrArg some (by kernel_rfl))
  f276 := Try.func81.trans (congrArg some (by kernel_rfl))
  f277 := Try.func82.trans (congrArg some (by kernel_rfl))
  t0 := Try.underlying0
  a0 := Try.isAgg0
  z0 := Try.sizeOf0
  v0 := Try.zeroValue0
  t3 := Try.underlying3
  a3 := Try.isAgg3
  z3 := Try.sizeOf3
  v3 := Try.zeroValue3
  t4 := Try.underlying4
  a4 := Try.isAgg4
  z4 := Try.sizeOf4
  v4 := Try.zeroValue4
  t9 := Try.underlying9
  a9 := Try.isAgg9
  z9 := Try.sizeOf9
  v9 := Try.zeroValue9
  t20 := Try.underlying20
  a20 := Try.isAgg20
  z20 := Try.sizeOf20
  v20 := Try.zeroValue20
  t31 := Try.underlying67
  a31 := Try.isAgg67
  z31 := Try.sizeOf67
  v31 := Try.zeroValue67
  t37 := Try.underlying85
  a37 := Try.isAgg85
  z37 := Try.sizeOf85
  v37 := Try.zeroValue85
  t70 := Try.underlying94
  a70 := Try.isAgg94
  z70 := Try.sizeOf94
  v70 := Try.zeroValue94
  t72 := Try.underlying96
  a72 := Try.isAgg96
  z72 := Try.sizeOf96
  v72 := Try.zeroValue96
  t75 := Try.underlying99
  a75 := Try.isAgg99
  z75 := Try.sizeOf99
  v75 := Try.zeroValue99
  t76 := Try.underlying100
  a76 := Try.isAgg100
  z76 := Try.sizeOf100
  v76 := Try.zeroValue100
  t127 := Try.underlying105
  a127 := Try.isAgg105
  z127 := Try.sizeOf105
  v127 := Try.zeroValue105
  t164 := Try.underlying106
  a164 := Try.isAgg106
  z164 := Try.sizeOf106
  v164 := Try.zeroValue106 }
theorem Try.Builder_Extra_156 : Builder.Extra Try.prog Try.lays156_ren := {
  sizeBuilder := by kernel_rfl
  liesBuilder := by kernel_rfl
  t5 := Try.underlying5
  a5 := Try.isAgg5
  z5 := Try.sizeOf5
  v5 := Try.zeroValue5
  infoByte := by kernel_rfl
  cellsByte := by kernel_rfl
  sizeByte := by kernel_rfl
  neB5 := by decide }
open Go.RowKit in
/-- No element: the empty string; the world is as it was. (Whatever the slice's address and capacity: a nil slice too.) (LAID: no walk: one application.) -/
theorem Try.strings_Join_none (a : Option Addr) (c : Nat) (sep : ByteArray) (w : World) :
    Calls Try.prog 55 #[.slice a 0 c, .string sep] w fun e w' => e = .returned (.string ⟨#[]⟩) ∧ w' = w := Any.strings_Join_none Try.lays156 Try.Builder_Extra_156 a c sep w
open Go.RowKit in
/-- strings.Join: "Join concatenates the elements of its first argument to create a single string. The separator string sep is placed between elements in the resulting string.": HOWEVER MANY ELEMENTS. Below the heap's end the world is as it was. (LAID: no walk: one application.) -/
theorem Try.strings_Join (bk o c : Nat) (xs : List ByteArray) (sep : ByteArray) (w : World) (hcells : ∀ (j : Nat) x, xs[j]? = some x → w.cell? ⟨bk, o + j, none⟩ = some (.string x)) (hbk : bk < w.heap.size) (hN : xs.length ≤ 140737488355328) (hcap : xs.length ≤ c) (hlen : (Lib.join (xs.map (·.data.toList)) sep.data.toList).length ≤ 140737488355328) :
    Calls Try.prog 55 #[.slice (some ⟨bk, o, none⟩) xs.length c, .string sep] w fun e w' => e = .returned (.string ⟨(Lib.join (xs.map (·.data.toList)) sep.data.toList).toArray⟩) ∧ Below w.heap.size w w' := Any.strings_Join Try.lays156 Try.Builder_Extra_156 bk o c xs sep w hcells hbk hN hcap hlen
end Go.Proofs
namespace Go.Proofs.Ytahoibanpplhbaa.PAll
open Go.RowKit Go.Proofs.Ytahoibanpplhbaa.Xw Go.Proofs.YtahoibanpplhbaaW.PrintWords Go.Proofs.YtahoibanpplhbaaW.PrintLast Go.Proofs.YtahoibanpplhbaaW.PrintMore
attribute [local go_sem] max2_int min2_int max_two min_two max_three min_three max_four min_four   -- for this text's walks alone
set_option linter.unusedVariables false
set_option linter.unusedSimpArgs false
def spenceref04_PrintTag.f (a0_0 : Bool) (a0_1 : ByteArray) : Option (ByteArray) := if 1 + a0_1.size ≤ 9223372036854775807 then (if 1 + a0_1.size + 1 ≤ 9223372036854775807 then (if a0_0 = true then (if 2 + (1 + a0_1.size + 1) ≤ 9223372036854775807 then (some ((⟨#[87, 47]⟩ : ByteArray) ++ (((⟨#[34]⟩ : ByteArray) ++ a0_1) ++ (⟨#[34]⟩ : ByteArray)))) else (none)) else (some (((⟨#[34]⟩ : ByteArray) ++ a0_1) ++ (⟨#[34]⟩ : ByteArray)))) else (none)) else (none)
set_option maxHeartbeats 8000000 in
set_option maxRecDepth 100000 in
theorem spenceref04_PrintTag.calls (a0_0 : Bool) (a0_1 : ByteArray) (r : ByteArray) (w : World) (h : spenceref04_PrintTag.f a0_0 a0_1 = some r) :
    Calls Try.prog 26 #[.agg #[.bool a0_0, .string a0_1]] w fun e w' => e = .returned (.string r) ∧ Below w.heap.size w w' := by
  have hu51 := Try.underlying51
  have HB := Aside0.mk (Below.refl w.heap.size w)
  have H : (if 1 + a0_1.size ≤ 9223372036854775807 then (if 1 + a0_1.size + 1 ≤ 9223372036854775807 then (if a0_0 = true then (if 2 + (1 + a0_1.size + 1) ≤ 9223372036854775807 then (some ((⟨#[87, 47]⟩ : ByteArray) ++ (((⟨#[34]⟩ : ByteArray) ++ a0_1) ++ (⟨#[34]⟩ : ByteArray)))) else (none)) else (some (((⟨#[34]⟩ : ByteArray) ++ a0_1) ++ (⟨#[34]⟩ : ByteArray)))) else (none)) else (none)) = some r := h
  clear h
  by_cases c2 : 1 + a0_1.size ≤ 9223372036854775807
  · rw [if_pos c2] at H
    have c2b0 := eq_true c2
    have c2b1 : decide (1 + a0_1.size ≤ 9223372036854775807) = true := decide_eq_true c2
    try have c2b2 : (9223372036854775807 < 1 + a0_1.size) = False := eq_false (Nat.not_lt.2 c2)
    by_cases c3 : 1 + a0_1.size + 1 ≤ 9223372036854775807
    · rw [if_pos c3] at H
      have c3b0 := eq_true c3
      have c3b1 : decide (1 + a0_1.size + 1 ≤ 9223372036854775807) = true := decide_eq_true c3
      try have c3b2 : (9223372036854775807 < 1 + a0_1.size + 1) = False := eq_false (Nat.not_lt.2 c3)
      by_cases c4 : a0_0 = true
      · subst c4
        have H1 : (if 2 + (1 + a0_1.size + 1) ≤ 9223372036854775807 then (some ((⟨#[87, 47]⟩ : ByteArray) ++ (((⟨#[34]⟩ : ByteArray) ++ a0_1) ++ (⟨#[34]⟩ : ByteArray)))) else (none)) = some r := by rw [if_pos rfl] at H; exact H
        clear H
        have H := H1
        clear H1
        by_cases c5 : 2 + (1 + a0_1.size + 1) ≤ 9223372036854775807
        · rw [if_pos c5] at H
          have c5b0 := eq_true c5
          have c5b1 : decide (2 + (1 + a0_1.size + 1) ≤ 9223372036854775807) = true := decide_eq_true c5
          try have c5b2 : (9223372036854775807 < 2 + (1 + a0_1.size + 1)) = False := eq_false (Nat.not_lt.2 c5)
          obtain rfl := Option.some.inj H
          go_enter Try.func26, Try.ntmps26
          go_wp2_with (first | ((with_reducible refine gate_dst (N := 1) rfl ?_); refine box_event ?hg (N := 1) ?hd (cs := #[.bool true, .string a0_1]) (t := 51) ?hr ?_; (case hd => rfl); (case hg => rfl); (case hr => first | (go_simp; done) | (go_simp; rfl)); intro gb383 hg w6 hbox hb; have n0_ := Aside0.mk (below_step (by repeat (first | (with_reducible first | exact HB.out | apply below_alloc | apply pw_below_drewN | apply below_drew1) | exact HB.out)) hb); have n1_ := Aside0.mk (hbox); have n2_ := Aside0.mk ((by rw [hg]; exact (below_size (by repeat (first | (with_reducible first | exact HB.out | apply below_alloc | apply pw_below_drewN | apply below_drew1) | exact HB.out))) : w.heap.size ≤ gb383)); have n3_ := Aside0.mk ((by rw [hg]; exact (below_size (by repeat (first | (with_reducible first | exact HB.out | apply below_alloc | apply pw_below_drewN | apply below_drew1) | exact HB.out))) : w.heap.size ≤ gb383)); clear HB; have HB := n0_; have BK383 := n1_; have GW383 := n2_; have GE383 := n3_; clear n0_ n1_ n2_ n3_; clear hb hbox hg; have hcz7_0 : w6.cell? ⟨gb383, 0, none⟩ = some (.bool true) := (blk_cell BK383.out 0).trans rfl; have hcz7_1 : w6.cell? ⟨gb383, 1, none⟩ = some (.string a0_1) := (blk_cell BK383.out 1).trans rfl; have hfz7_0 := blk_frozen BK383.out 0; have hfz7_1 := blk_frozen BK383.out 1))
          go_ret
          exact ⟨by first | rfl | exact ne_empty _ | exact eq_empty _ | (simp [errW_none, errW_some] <;> rfl) | (simp [*, errW_none, errW_some] <;> rfl), by repeat (first | (with_reducible first | exact HB.out | apply below_alloc | apply pw_below_drewN | apply below_drew1 | refine below_set ?_ GE383.out) | exact HB.out)⟩
        · rw [if_neg c5] at H
          exact absurd H (by simp)
      · replace c4 := Bool.eq_false_iff.mpr c4
        subst c4
        have H1 : (some (((⟨#[34]⟩ : ByteArray) ++ a0_1) ++ (⟨#[34]⟩ : ByteArray))) = some r := by rw [if_neg (show ¬ (false = true) by decide)] at H; exact H
        clear H
        have H := H1
        clear H1
        obtain rfl := Option.some.inj H
        go_enter Try.func26, Try.ntmps26
        go_wp2_with (first | ((with_reducible refine gate_dst (N := 1) rfl ?_); refine box_event ?hg (N := 1) ?hd (cs := #[.bool false, .string a0_1]) (t := 51) ?hr ?_; (case hd => rfl); (case hg => rfl); (case hr => first | (go_simp; done) | (go_simp; rfl)); intro gb383 hg w8 hbox hb; have n0_ := Aside0.mk (below_step (by repeat (first | (with_reducible first | exact HB.out | apply below_alloc | apply pw_below_drewN | apply below_drew1) | exact HB.out)) hb); have n1_ := Aside0.mk (hbox); have n2_ := Aside0.mk ((by rw [hg]; exact (below_size (by repeat (first | (with_reducible first | exact HB.out | apply below_alloc | apply pw_below_drewN | apply below_drew1) | exact HB.out))) : w.heap.size ≤ gb383)); have n3_ := Aside0.mk ((by rw [hg]; exact (below_size (by repeat (first | (with_reducible first | exact HB.out | apply below_alloc | apply pw_below_drewN | apply below_drew1) | exact HB.out))) : w.heap.size ≤ gb383)); clear HB; have HB := n0_; have BK383 := n1_; have GW383 := n2_; have GE383 := n3_; clear n0_ n1_ n2_ n3_; clear hb hbox hg; have hcz9_0 : w8.cell? ⟨gb383, 0, none⟩ = some (.bool false) := (blk_cell BK383.out 0).trans rfl; have hcz9_1 : w8.cell? ⟨gb383, 1, none⟩ = some (.string a0_1) := (blk_cell BK383.out 1).trans rfl; have hfz9_0 := blk_frozen BK383.out 0; have hfz9_1 := blk_frozen BK383.out 1))
        go_ret
        exact ⟨by first | rfl | exact ne_empty _ | exact eq_empty _ | (simp [errW_none, errW_some] <;> rfl) | (simp [*, errW_none, errW_some] <;> rfl), by repeat (first | (with_reducible first | exact HB.out | apply below_alloc | apply pw_below_drewN | apply below_drew1 | refine below_set ?_ GE383.out) | exact HB.out)⟩
    · rw [if_neg c3] at H
      exact absurd H (by simp)
  · rw [if_neg c2] at H
    exact absurd H (by simp)
def cond_Right.f (k : Nat) (a0_0 : Bool) (l0_1 : List (S51)) : Option (Bool) := if a0_0 = true then (some ((l0_1.length : Int) == 0)) else (if (l0_1.length : Int) = 0 then (some false) else (if (l0_1.length : Int) > 16 then (some false) else ((api_ETag_51.f k l0_1 52).bind fun t385 => (some (!t385)))))
theorem cond_Right.mono : ∀ a0 a1 k, LeO (cond_Right.f k a0 a1) (cond_Right.f (k + 1) a0 a1) := by
  intro a0 a1 k
  unfold cond_Right.f
  repeat' first
      | (with_reducible exact api_ETag_51.mono _ _ _)
      | (with_reducible exact LeO.refl _)
      | (with_reducible exact LeO.none _)
      | (with_reducible refine LeO.ite ?_ ?_)
      | (with_reducible refine LeO.bind ?_ (fun _ => ?_))
      | exact api_ETag_51.mono _ _ _
      | exact LeO.none _
      | refine LeO.ite ?_ ?_
      | refine LeO.bind ?_ (fun _ => ?_)
set_option maxHeartbeats 8000000 in
set_option maxRecDepth 100000 in
theorem cond_Right.calls (k : Nat) (a0_0 : Bool) (A0_1 : Option Addr) (c0_1 : Nat) (l0_1 : List (S51)) (r : Bool) (w : World) (hr0_1 : Kd.C k51 w A0_1 l0_1.length l0_1) (hc0_1 : l0_1.length ≤ c0_1) (h : cond_Right.f k a0_0 l0_1 = some r) :
    Calls Try.prog 27 #[.agg #[.bool a0_0, .slice A0_1 l0_1.length c0_1]] w fun e w' => e = .returned (.bool r) ∧ Below w.heap.size w w' := by
  have hu40 := Try.underlying40
  have HR0_1 := Aside0.mk hr0_1
  have HC0_1 := Aside0.mk hc0_1
  clear hr0_1 hc0_1
  have HB := Aside0.mk (Below.refl w.heap.size w)
  have H : (if a0_0 = true then (some ((l0_1.length : Int) == 0)) else (if (l0_1.length : Int) = 0 then (some false) else (if (l0_1.length : Int) > 16 then (some false) else ((api_ETag_51.f k l0_1 52).bind fun t385 => (some (!t385)))))) = some r := h
  clear h
  by_cases c2 : a0_0 = true
  · subst c2
    have H1 : (some ((l0_1.length : Int) == 0)) = some r := by rw [if_pos rfl] at H; exact H
    clear H
    have H := H1
    clear H1
    obtain rfl := Option.some.inj H
    go_enter Try.func27, Try.ntmps27
    go_wp2_with (first | ((with_reducible refine gate_dst (N := 1) rfl ?_); (try (refine gate_guard (by rfl) ?_; dsimp only)); refine box_event ?hg (N := 1) ?hd (cs := #[.bool true, .slice A0_1 l0_1.length c0_1]) (t := 40) ?hr ?_; (case hd => rfl); (case hg => rfl); (case hr => first | (go_simp; done) | (go_simp; rfl)); intro gb384 hg w3 hbox hb; have n0_ := Aside0.mk (below_step (by repeat (first | (with_reducible first | exact HB.out | apply below_alloc | apply pw_below_drewN | apply below_drew1) | exact HB.out)) hb); have n1_ := Aside0.mk (hbox); have n2_ := Aside0.mk ((by rw [hg]; exact (below_size (by repeat (first | (with_reducible first | exact HB.out | apply below_alloc | apply pw_below_drewN | apply below_drew1) | exact HB.out))) : w.heap.size ≤ gb384)); have n3_ := Aside0.mk ((by rw [hg]; exact (below_size (by repeat (first | (with_reducible first | exact HB.out | apply below_alloc | apply pw_below_drewN | apply below_drew1) | exact HB.out))) : w.heap.size ≤ gb384)); clear HB; have HB := n0_; have BK384 := n1_; have GW384 := n2_; have GE384 := n3_; clear n0_ n1_ n2_ n3_; clear hb hbox hg; have hcz4_0 : w3.cell? ⟨gb384, 0, none⟩ = some (.bool true) := (blk_cell BK384.out 0).trans rfl; have hcz4_1 : w3.cell? ⟨gb384, 1, none⟩ = some (.slice A0_1 l0_1.length c0_1) := (blk_cell BK384.out 1).trans rfl; have hfz4_0 := blk_frozen BK384.out 0; have hfz4_1 := blk_frozen BK384.out 1))
    go_ret
    exact ⟨by first | rfl | exact ne_empty _ | exact eq_empty _ | (simp [errW_none, errW_some] <;> rfl) | (simp [*, errW_none, errW_some] <;> rfl), by repeat (first | (with_reducible first | exact HB.out | apply below_alloc | apply pw_below_drewN | apply below_drew1 | refine below_set ?_ GE384.out) | exact HB.out)⟩
  · replace c2 := Bool.eq_false_iff.mpr c2
    subst c2
    have H1 : (if (l0_1.length : Int) = 0 then (some false) else (if (l0_1.length : Int) > 16 then (some false) else ((api_ETag_51.f k l0_1 52).bind fun t385 => (some (!t385))))) = some r := by rw [if_neg (show ¬ (false = true) by decide)] at H; exact H
    clear H
    have H := H1
    clear H1
    by_cases c5 : (l0_1.length : Int) = 0
    · rw [if_pos c5] at H
      have c5b0 : ((l0_1.length : Int) == 0) = true := beq_iff_eq.mpr c5
      have c5b1 : ((l0_1.length : Int) != 0) = false := bne_eq_false_iff_eq.mpr c5
      clear c5
      obtain rfl := Option.some.inj H
      go_enter Try.func27, Try.ntmps27
      go_wp2_with (first | ((with_reducible refine gate_dst (N := 1) rfl ?_); (try (refine gate_guard (by rfl) ?_; dsimp only)); refine box_event ?hg (N := 1) ?hd (cs := #[.bool false, .slice A0_1 l0_1.length c0_1]) (t := 40) ?hr ?_; (case hd => rfl); (case hg => rfl); (case hr => first | (go_simp; done) | (go_simp; rfl)); intro gb384 hg w6 hbox hb; have n0_ := Aside0.mk (below_step (by repeat (first | (with_reducible first | exact HB.out | apply below_alloc | apply pw_below_drewN | apply below_drew1) | exact HB.out)) hb); have n1_ := Aside0.mk (hbox); have n2_ := Aside0.mk ((by rw [hg]; exact (below_size (by repeat (first | (with_reducible first | exact HB.out | apply below_alloc | apply pw_below_drewN | apply below_drew1) | exact HB.out))) : w.heap.size ≤ gb384)); have n3_ := Aside0.mk ((by rw [hg]; exact (below_size (by repeat (first | (with_reducible first | exact HB.out | apply below_alloc | apply pw_below_drewN | apply below_drew1) | exact HB.out))) : w.heap.size ≤ gb384)); clear HB; have HB := n0_; have BK384 := n1_; have GW384 := n2_; have GE384 := n3_; clear n0_ n1_ n2_ n3_; clear hb hbox hg; have hcz7_0 : w6.cell? ⟨gb384, 0, none⟩ = some (.bool false) := (blk_cell BK384.out 0).trans rfl; have hcz7_1 : w6.cell? ⟨gb384, 1, none⟩ = some (.slice A0_1 l0_1.length c0_1) := (blk_cell BK384.out 1).trans rfl; have hfz7_0 := blk_frozen BK384.out 0; have hfz7_1 := blk_frozen BK384.out 1))
      go_ret
      exact ⟨by first | rfl | exact ne_empty _ | exact eq_empty _ | (simp [errW_none, errW_some] <;> rfl) | (simp [*, errW_none, errW_some] <;> rfl), by repeat (first | (with_reducible first | exact HB.out | apply below_alloc | apply pw_below_drewN | apply below_drew1 | refine below_set ?_ GE384.out) | exact HB.out)⟩
    · rw [if_neg c5] at H
      have c5b0 : ((l0_1.length : Int) == 0) = false := beq_eq_false_iff_ne.mpr c5
      have c5b1 : ((l0_1.length : Int) != 0) = true := bne_iff_ne.mpr c5
      have c5b2 : ¬ (l0_1 = []) := fun h_ => c5 (by rw [h_]; rfl)
      by_cases c8 : (l0_1.length : Int) > 16
      · rw [if_pos c8] at H
        have c8b0 : decide (16 < (l0_1.length : Int)) = true := decide_eq_true c8
        have c8b1 : decide (16 < l0_1.length) = true := decide_eq_true (by omega)
        clear c8
        obtain rfl := Option.some.inj H
        go_enter Try.func27, Try.ntmps27
        go_wp2_with (first | ((with_reducible refine gate_dst (N := 1) rfl ?_); (try (refine gate_guard (by rfl) ?_; dsimp only)); refine box_event ?hg (N := 1) ?hd (cs := #[.bool false, .slice A0_1 l0_1.length c0_1]) (t := 40) ?hr ?_; (case hd => rfl); (case hg => rfl); (case hr => first | (go_simp; done) | (go_simp; rfl)); intro gb384 hg w9 hbox hb; have n0_ := Aside0.mk (below_step (by repeat (first | (with_reducible first | exact HB.out | apply below_alloc | apply pw_below_drewN | apply below_drew1) | exact HB.out)) hb); have n1_ := Aside0.mk (hbox); have n2_ := Aside0.mk ((by rw [hg]; exact (below_size (by repeat (first | (with_reducible first | exact HB.out | apply below_alloc | apply pw_below_drewN | apply below_drew1) | exact HB.out))) : w.heap.size ≤ gb384)); have n3_ := Aside0.mk ((by rw [hg]; exact (below_size (by repeat (first | (with_reducible first | exact HB.out | apply below_alloc | apply pw_below_drewN | apply below_drew1) | exact HB.out))) : w.heap.size ≤ gb384)); clear HB; have HB := n0_; have BK384 := n1_; have GW384 := n2_; have GE384 := n3_; clear n0_ n1_ n2_ n3_; clear hb hbox hg; have hcz10_0 : w9.cell? ⟨gb384, 0, none⟩ = some (.bool false) := (blk_cell BK384.out 0).trans rfl; have hcz10_1 : w9.cell? ⟨gb384, 1, none⟩ = some (.slice A0_1 l0_1.length c0_1) := (blk_cell BK384.out 1).trans rfl; have hfz10_0 := blk_frozen BK384.out 0; have hfz10_1 := blk_frozen BK384.out 1))
        go_ret
        exact ⟨by first | rfl | exact ne_empty _ | exact eq_empty _ | (simp [errW_none, errW_some] <;> rfl) | (simp [*, errW_none, errW_some] <;> rfl), by repeat (first | (with_reducible first | exact HB.out | apply below_alloc | apply pw_below_drewN | apply below_drew1 | refine below_set ?_ GE384.out) | exact HB.out)⟩
      · rw [if_neg c8] at H
        have c8b0 : decide (16 < (l0_1.length : Int)) = false := decide_eq_false c8
        have c8b1 : decide (16 < l0_1.length) = false := decide_eq_false (by omega)
        clear c8
        replace H := Option.bind_eq_some_iff.mp H
        obtain ⟨t385, A110, H⟩ := H
        replace H : (some (!t385)) = some r := H
        have A11 := Aside0.mk A110
        clear A110
        obtain rfl := Option.some.inj H
        go_enter Try.func27, Try.ntmps27
        go_wp2_with (first | ((with_reducible refine gate_dst (N := 1) rfl ?_); (try (refine gate_guard (by rfl) ?_; dsimp only)); refine box_event ?hg (N := 1) ?hd (cs := #[.bool false, .slice A0_1 l0_1.length c0_1]) (t := 40) ?hr ?_; (case hd => rfl); (case hg => rfl); (case hr => first | (go_simp; done) | (go_simp; rfl)); intro gb384 hg w12 hbox hb; have n0_ := Aside0.mk (below_step (by repeat (first | (with_reducible first | exact HB.out | apply below_alloc | apply pw_below_drewN | apply below_drew1) | exact HB.out)) hb); have n1_ := Aside0.mk (hbox); have n2_ := Aside0.mk ((by rw [hg]; exact (below_size (by repeat (first | (with_reducible first | exact HB.out | apply below_alloc | apply pw_below_drewN | apply below_drew1) | exact HB.out))) : w.heap.size ≤ gb384)); have n3_ := Aside0.mk ((by rw [hg]; exact (below_size (by repeat (first | (with_reducible first | exact HB.out | apply below_alloc | apply pw_below_drewN | apply below_drew1) | exact HB.out))) : w.heap.size ≤ gb384)); clear HB; have HB := n0_; have BK384 := n1_; have GW384 := n2_; have GE384 := n3_; clear n0_ n1_ n2_ n3_; clear hb hbox hg; have hcz13_0 : w12.cell? ⟨gb384, 0, none⟩ = some (.bool false) := (blk_cell BK384.out 0).trans rfl; have hcz13_1 : w12.cell? ⟨gb384, 1, none⟩ = some (.slice A0_1 l0_1.length c0_1) := (blk_cell BK384.out 1).trans rfl; have hfz13_0 := blk_frozen BK384.out 0; have hfz13_1 := blk_frozen BK384.out 1) | ((with_reducible refine gate_callee (f := 51) rfl ?_); refine goesL_ (some 21) rfl rfl Try.func51 (by kernel_rfl) rfl #[.slice A0_1 l0_1.length c0_1, .func (.func 52) #[] #[]] rfl (by (try simp only [List.map_toArray, List.map_cons, List.map_nil]); first | done | rfl | (simp only [List.length_drop, List.length_take]; rfl)) ?_; (with_reducible refine (api_ETag_51.calls k _ _ l0_1 52 t385 _ ?side1 ?side2 A11.out).mono ?_); (case side1 => repeat (first | exact (Kd.C_below HR0_1.out HB.out) | (with_reducible refine Kd.C_alloc ?_ _) | (with_reducible refine Kd.C_drewN ?_ _) | (with_reducible refine Kd.C_drew ?_))); (case side2 => exact HC0_1.out); rintro e w14 ⟨rfl, hb⟩; refine ⟨_, rfl, ?_⟩; have n0_ := Aside0.mk (blk_below (g := gb384) (o := .cells #[.bool false, .slice A0_1 l0_1.length c0_1] 40 (0, 0)) (by (with_reducible repeat (first | refine blk_drewN ?_ _ | refine blk_drew ?_ | refine blk_alloc ?_ _)); exact BK384.out) hb); have n1_ := Aside0.mk (below_step (by repeat (first | (with_reducible first | exact HB.out | apply below_alloc | apply pw_below_drewN | apply below_drew1 | refine below_set ?_ GE384.out) | exact HB.out)) hb); clear BK384; clear HB; have BK384 := n0_; have HB := n1_; clear n0_ n1_; (try clear hb); (try clear hb2); (try clear hk); (try clear hi)))
        go_ret
        exact ⟨by first | rfl | exact ne_empty _ | exact eq_empty _ | (simp [errW_none, errW_some] <;> rfl) | (simp [*, errW_none, errW_some] <;> rfl), by repeat (first | (with_reducible first | exact HB.out | apply below_alloc | apply pw_below_drewN | apply below_drew1 | refine below_set ?_ GE384.out) | exact HB.out)⟩
def etag_Print.f (a0_0 : Bool) (a0_1 : ByteArray) : Option (ByteArray) := if 1 + a0_1.size ≤ 9223372036854775807 then (if 1 + a0_1.size + 1 ≤ 9223372036854775807 then (if a0_0 = true then (if 2 + (1 + a0_1.size + 1) ≤ 9223372036854775807 then (some ((⟨#[87, 47]⟩ : ByteArray) ++ (((⟨#[34]⟩ : ByteArray) ++ a0_1) ++ (⟨#[34]⟩ : ByteArray)))) else (none)) else (some (((⟨#[34]⟩ : ByteArray) ++ a0_1) ++ (⟨#[34]⟩ : ByteArray)))) else (none)) else (none)
set_option maxHeartbeats 8000000 in
set_option maxRecDepth 100000 in
theorem etag_Print.calls (a0_0 : Bool) (a0_1 : ByteArray) (r : ByteArray) (w : World) (h : etag_Print.f a0_0 a0_1 = some r) :
    Calls Try.prog 54 #[.agg #[.bool a0_0, .string a0_1]] w fun e w' => e = .returned (.string r) ∧ Below w.heap.size w w' := by
  have hu51 := Try.underlying51
  have HB := Aside0.mk (Below.refl w.heap.size w)
  have H : (if 1 + a0_1.size ≤ 9223372036854775807 then (if 1 + a0_1.size + 1 ≤ 9223372036854775807 then (if a0_0 = true then (if 2 + (1 + a0_1.size + 1) ≤ 9223372036854775807 then (some ((⟨#[87, 47]⟩ : ByteArray) ++ (((⟨#[34]⟩ : ByteArray) ++ a0_1) ++ (⟨#[34]⟩ : ByteArray)))) else (none)) else (some (((⟨#[34]⟩ : ByteArray) ++ a0_1) ++ (⟨#[34]⟩ : ByteArray)))) else (none)) else (none)) = some r := h
  clear h
  by_cases c2 : 1 + a0_1.size ≤ 9223372036854775807
  · rw [if_pos c2] at H
    have c2b0 := eq_true c2
    have c2b1 : decide (1 + a0_1.size ≤ 9223372036854775807) = true := decide_eq_true c2
    try have c2b2 : (9223372036854775807 < 1 + a0_1.size) = False := eq_false (Nat.not_lt.2 c2)
    by_cases c3 : 1 + a0_1.size + 1 ≤ 9223372036854775807
    · rw [if_pos c3] at H
      have c3b0 := eq_true c3
      have c3b1 : decide (1 + a0_1.size + 1 ≤ 9223372036854775807) = true := decide_eq_true c3
      try have c3b2 : (9223372036854775807 < 1 + a0_1.size + 1) = False := eq_false (Nat.not_lt.2 c3)
      by_cases c4 : a0_0 = true
      · subst c4
        have H1 : (if 2 + (1 + a0_1.size + 1) ≤ 9223372036854775807 then (some ((⟨#[87, 47]⟩ : ByteArray) ++ (((⟨#[34]⟩ : ByteArray) ++ a0_1) ++ (⟨#[34]⟩ : ByteArray)))) else (none)) = some r := by rw [if_pos rfl] at H; exact H
        clear H
        have H := H1
        clear H1
        by_cases c5 : 2 + (1 + a0_1.size + 1) ≤ 9223372036854775807
        · rw [if_pos c5] at H
          have c5b0 := eq_true c5
          have c5b1 : decide (2 + (1 + a0_1.size + 1) ≤ 9223372036854775807) = true := decide_eq_true c5
          try have c5b2 : (9223372036854775807 < 2 + (1 + a0_1.size + 1)) = False := eq_false (Nat.not_lt.2 c5)
          obtain rfl := Option.some.inj H
          go_enter Try.func54, Try.ntmps54
          go_wp2_with (first | ((with_reducible refine gate_dst (N := 1) rfl ?_); refine box_event ?hg (N := 1) ?hd (cs := #[.bool true, .string a0_1]) (t := 51) ?hr ?_; (case hd => rfl); (case hg => rfl); (case hr => first | (go_simp; done) | (go_simp; rfl)); intro gb386 hg w6 hbox hb; have n0_ := Aside0.mk (below_step (by repeat (first | (with_reducible first | exact HB.out | apply below_alloc | apply pw_below_drewN | apply below_drew1) | exact HB.out)) hb); have n1_ := Aside0.mk (hbox); have n2_ := Aside0.mk ((by rw [hg]; exact (below_size (by repeat (first | (with_reducible first | exact HB.out | apply below_alloc | apply pw_below_drewN | apply below_drew1) | exact HB.out))) : w.heap.size ≤ gb386)); have n3_ := Aside0.mk ((by rw [hg]; exact (below_size (by repeat (first | (with_reducible first | exact HB.out | apply below_alloc | apply pw_below_drewN | apply below_drew1) | exact HB.out))) : w.heap.size ≤ gb386)); clear HB; have HB := n0_; have BK386 := n1_; have GW386 := n2_; have GE386 := n3_; clear n0_ n1_ n2_ n3_; clear hb hbox hg; have hcz7_0 : w6.cell? ⟨gb386, 0, none⟩ = some (.bool true) := (blk_cell BK386.out 0).trans rfl; have hcz7_1 : w6.cell? ⟨gb386, 1, none⟩ = some (.string a0_1) := (blk_cell BK386.out 1).trans rfl; have hfz7_0 := blk_frozen BK386.out 0; have hfz7_1 := blk_frozen BK386.out 1))
          go_ret
          exact ⟨by first | rfl | exact ne_empty _ | exact eq_empty _ | (simp [errW_none, errW_some] <;> rfl) | (simp [*, errW_none, errW_some] <;> rfl), by repeat (first | (with_reducible first | exact HB.out | apply below_alloc | apply pw_below_drewN | apply below_drew1 | refine below_set ?_ GE386.out) | exact HB.out)⟩
        · rw [if_neg c5] at H
          exact absurd H (by simp)
      · replace c4 := Bool.eq_false_iff.mpr c4
        subst c4
        have H1 : (some (((⟨#[34]⟩ : ByteArray) ++ a0_1) ++ (⟨#[34]⟩ : ByteArray))) = some r := by rw [if_neg (show ¬ (false = true) by decide)] at H; exact H
        clear H
        have H := H1
        clear H1
        obtain rfl := Option.some.inj H
        go_enter Try.func54, Try.ntmps54
        go_wp2_with (first | ((with_reducible refine gate_dst (N := 1) rfl ?_); refine box_event ?hg (N := 1) ?hd (cs := #[.bool false, .string a0_1]) (t := 51) ?hr ?_; (case hd => rfl); (case hg => rfl); (case hr => first | (go_simp; done) | (go_simp; rfl)); intro gb386 hg w8 hbox hb; have n0_ := Aside0.mk (below_step (by repeat (first | (with_reducible first | exact HB.out | apply below_alloc | apply pw_below_drewN | apply below_drew1) | exact HB.out)) hb); have n1_ := Aside0.mk (hbox); have n2_ := Aside0.mk ((by rw [hg]; exact (below_size (by repeat (first | (with_reducible first | exact HB.out | apply below_alloc | apply pw_below_drewN | apply below_drew1) | exact HB.out))) : w.heap.size ≤ gb386)); have n3_ := Aside0.mk ((by rw [hg]; exact (below_size (by repeat (first | (with_reducible first | exact HB.out | apply below_alloc | apply pw_below_drewN | apply below_drew1) | exact HB.out))) : w.heap.size ≤ gb386)); clear HB; have HB := n0_; have BK386 := n1_; have GW386 := n2_; have GE386 := n3_; clear n0_ n1_ n2_ n3_; clear hb hbox hg; have hcz9_0 : w8.cell? ⟨gb386, 0, none⟩ = some (.bool false) := (blk_cell BK386.out 0).trans rfl; have hcz9_1 : w8.cell? ⟨gb386, 1, none⟩ = some (.string a0_1) := (blk_cell BK386.out 1).trans rfl; have hfz9_0 := blk_frozen BK386.out 0; have hfz9_1 := blk_frozen BK386.out 1))
        go_ret
        exact ⟨by first | rfl | exact ne_empty _ | exact eq_empty _ | (simp [errW_none, errW_some] <;> rfl) | (simp [*, errW_none, errW_some] <;> rfl), by repeat (first | (with_reducible first | exact HB.out | apply below_alloc | apply pw_below_drewN | apply below_drew1 | refine below_set ?_ GE386.out) | exact HB.out)⟩
    · rw [if_neg c3] at H
      exact absurd H (by simp)
  · rw [if_neg c2] at H
    exact absurd H (by simp)
/-- texts, one behind the other, with a text between -/
def joinI (sep : List Int) : List (List Int) → List Int
  | [] => []
  | [x] => x
  | x :: y :: r => x ++ sep ++ joinI sep (y :: r)
theorem join_bytes (sep : List UInt8) : ∀ l : List (List UInt8), (Lib.join l sep).map (fun b => ((b.toNat : Nat) : Int)) = joinI (sep.map fun b => ((b.toNat : Nat) : Int)) (l.map fun x => x.map fun b => ((b.toNat : Nat) : Int))
  | [] => rfl
  | [x] => by rw [Lib.join_one]; rfl
  | x :: y :: r => by
    have ih := join_bytes sep (y :: r)
    rw [Lib.join_cons] at ih ⊢
    rw [show Lib.joinTail sep (y :: r) = sep ++ (y ++ Lib.joinTail sep r) by simp [Lib.joinTail]]
    rw [List.map_append, List.map_append, ih]
    simp only [List.map_cons, joinI, List.append_assoc]
theorem str_nums (l : List UInt8) : strOfNums (l.map fun b => ((b.toNat : Nat) : Int)) = ⟨l.toArray⟩ := by
  apply ByteArray.ext
  apply Array.toList_inj.1
  rw [strOfNums_data, List.map_map]
  conv => rhs; rw [← List.map_id l]
  apply List.map_congr_left
  intro b _
  simp
def strings_Join.f (l0 : List ByteArray) (a1 : ByteArray) : Option ByteArray := if l0.length ≤ 140737488355328 then (if (joinI (bytesOf a1) (l0.map bytesOf)).length ≤ 140737488355328 then (some (strOfNums (joinI (bytesOf a1) (l0.map bytesOf)))) else none) else none
theorem strings_Join.calls (A0 : Option Addr) (c0 : Nat) (l0 : List ByteArray) (a1 : ByteArray) (r : ByteArray) (w : World) (hr0 : Kd.C Kd.string w A0 l0.length l0) (hc0 : l0.length ≤ c0) (h : strings_Join.f l0 a1 = some r) :
    Calls Try.prog 55 #[.slice A0 l0.length c0, .string a1] w fun e w' => e = .returned (.string r) ∧ Below w.heap.size w w' := by
  have hj : joinI (bytesOf a1) (l0.map bytesOf) = (Lib.join (l0.map (·.data.toList)) a1.data.toList).map (fun b => ((b.toNat : Nat) : Int)) := by
    rw [join_bytes, List.map_map]; rfl
  unfold strings_Join.f at h
  by_cases hN : l0.length ≤ 140737488355328
  rotate_left
  · rw [if_neg hN] at h; cases h
  rw [if_pos hN, hj, str_nums, List.length_map] at h
  by_cases hl : (Lib.join (l0.map (·.data.toList)) a1.data.toList).length ≤ 140737488355328
  rotate_left
  · rw [if_neg hl] at h; cases h
  rw [if_pos hl] at h
  obtain rfl := Option.some.inj h
  rcases Nat.eq_zero_or_pos l0.length with h0 | h0
  · have e0 : l0 = [] := List.eq_nil_of_length_eq_zero h0
    subst e0
    exact (Try.strings_Join_none A0 c0 a1 w).mono fun e w' ⟨he, hw⟩ => ⟨he, hw ▸ Below.refl _ _⟩
  · have hcell : ∀ (j : Nat) x, l0[j]? = some x → ∃ ad, A0 = some ad ∧ w.cell? (ad.add j) = some (.string x) := by
      intro j x hx
      have hj2 : j < l0.length := (List.getElem?_eq_some_iff.1 hx).1
      obtain ⟨ad, e, hc⟩ := Kd.at_string hr0 (j : Int) (by omega) (by omega)
      refine ⟨ad, e, ?_⟩
      rw [Int.toNat_natCast] at hc
      rw [hc]
      simp [rdOf, hx]
    obtain ⟨ad, rfl, hc1⟩ := hcell 0 _ (List.getElem?_eq_getElem h0)
    have hsp : ad.spot = none := by
      cases hs : ad.spot with
      | none => rfl
      | some s => unfold World.cell? at hc1; simp [Addr.add, hs] at hc1; split at hc1 <;> cases hc1
    have hcells : ∀ (j : Nat) x, l0[j]? = some x → w.cell? ⟨ad.block, ad.off + j, none⟩ = some (.string x) := by
      intro j x hx
      obtain ⟨ad2, e2, hc2⟩ := hcell j x hx
      obtain rfl := Option.some.inj e2
      have ea : (⟨ad.block, ad.off + j, none⟩ : Addr) = ad.add j := by
        clear hc2 hc1 hr0 hcell e2
        obtain ⟨b, o, s⟩ := ad
        obtain rfl : s = none := hsp
        unfold Addr.add
        split <;> simp_all
      rw [ea]; exact hc2
    have hlt : ad.block < w.heap.size := block_lt_of_cell hc1
    have HC := Try.strings_Join ad.block ad.off c0 l0 a1 w hcells hlt hN hc0 hl
    clear hcells hcell hc1 hr0 hj hl
    obtain ⟨b, o, s⟩ := ad
    obtain rfl : s = none := hsp
    exact HC
def cond_Print.l0 : Nat → List ByteArray → List (S51) → Int → Int → Option (ByteArray)
  | 0, _, _, _, _ => none
  | k + 1, x3, x9, x10, x11 => if x11 < x10 then (if 0 ≤ x11 then (if x11 < (x9.length : Int) then ((etag_Print.f ((rd_T51 x9 x11).f0) ((rd_T51 x9 x11).f1)).bind fun t390 => (if x3.length < 8796093022208 then (cond_Print.l0 k (x3 ++ [t390]) x9 x10 (wrap64 (x11 + 1))) else (none))) else (none)) else (none)) else ((strings_Join.f x3 (⟨#[44, 32]⟩ : ByteArray)).bind fun t394 => (some t394))
def cond_Print.f (k : Nat) (a0_0 : Bool) (l0_1 : List (S51)) : Option (ByteArray) := if a0_0 = true then (some (⟨#[42]⟩ : ByteArray)) else (cond_Print.l0 k ([] : List ByteArray) l0_1 (l0_1.length : Int) 0)
theorem cond_Print.mono_l : ∀ k, (∀ y0 y1 y2 y3, LeO (cond_Print.l0 k y0 y1 y2 y3) (cond_Print.l0 (k + 1) y0 y1 y2 y3))
  | 0 => fun _ _ _ _ r h => by simp [cond_Print.l0] at h
  | k + 1 => by
    have ih0 := cond_Print.mono_l k
    · intro y0 y1 y2 y3
      unfold cond_Print.l0
      repeat' first
      | (with_reducible exact ih0 _ _ _ _)
      | (with_reducible exact LeO.refl _)
      | (with_reducible exact LeO.none _)
      | (with_reducible refine LeO.ite ?_ ?_)
      | (with_reducible refine LeO.bind ?_ (fun _ => ?_))
      | exact ih0 _ _ _ _
      | exact LeO.none _
      | refine LeO.ite ?_ ?_
      | refine LeO.bind ?_ (fun _ => ?_)
theorem cond_Print.mono : ∀ a0 a1 k, LeO (cond_Print.f k a0 a1) (cond_Print.f (k + 1) a0 a1) := by
  intro a0 a1 k
  have ih0 := cond_Print.mono_l k
  unfold cond_Print.f
  repeat' first
      | (with_reducible exact ih0 _ _ _ _)
      | (with_reducible exact LeO.refl _)
      | (with_reducible exact LeO.none _)
      | (with_reducible refine LeO.ite ?_ ?_)
      | (with_reducible refine LeO.bind ?_ (fun _ => ?_))
      | exact ih0 _ _ _ _
      | exact LeO.none _
      | refine LeO.ite ?_ ?_
      | refine LeO.bind ?_ (fun _ => ?_)
set_option maxHeartbeats 8000000 in
set_option maxRecDepth 100000 in
theorem cond_Print.calls (k : Nat) (a0_0 : Bool) (A0_1 : Option Addr) (c0_1 : Nat) (l0_1 : List (S51)) (r : ByteArray) (w : World) (hr0_1 : Kd.C k51 w A0_1 l0_1.length l0_1) (hc0_1 : l0_1.length ≤ c0_1) (h : cond_Print.f k a0_0 l0_1 = some r) :
    Calls Try.prog 28 #[.agg #[.bool a0_0, .slice A0_1 l0_1.length c0_1]] w fun e w' => e = .returned (.string r) ∧ Below w.heap.size w w' := by
  have hu40 := Try.underlying40
  have hu51 := Try.underlying51
  have HR0_1 := Aside0.mk hr0_1
  have HC0_1 := Aside0.mk hc0_1
  clear hr0_1 hc0_1
  have HB := Aside0.mk (Below.refl w.heap.size w)
  have H : (if a0_0 = true then (some (⟨#[42]⟩ : ByteArray)) else (cond_Print.l0 k ([] : List ByteArray) l0_1 (l0_1.length : Int) 0)) = some r := h
  clear h
  by_cases c2 : a0_0 = true
  · subst c2
    have H1 : (some (⟨#[42]⟩ : ByteArray)) = some r := by rw [if_pos rfl] at H; exact H
    clear H
    have H := H1
    clear H1
    obtain rfl := Option.some.inj H
    go_enter Try.func28, Try.ntmps28
    go_wp2_with (first | ((with_reducible refine gate_dst (N := 1) rfl ?_); refine box_event ?hg (N := 1) ?hd (cs := #[.bool true, .slice A0_1 l0_1.length c0_1]) (t := 40) ?hr ?_; (case hd => rfl); (case hg => rfl); (case hr => first | (go_simp; done) | (go_simp; rfl)); intro gb387 hg w3 hbox hb; have n0_ := Aside0.mk (below_step (by repeat (first | (with_reducible first | exact HB.out | apply below_alloc | apply pw_below_drewN | apply below_drew1) | exact HB.out)) hb); have n1_ := Aside0.mk (hbox); have n2_ := Aside0.mk ((by rw [hg]; exact (below_size (by repeat (first | (with_reducible first | exact HB.out | apply below_alloc | apply pw_below_drewN | apply below_drew1) | exact HB.out))) : w.heap.size ≤ gb387)); have n3_ := Aside0.mk ((by rw [hg]; exact (below_size (by repeat (first | (with_reducible first | exact HB.out | apply below_alloc | apply pw_below_drewN | apply below_drew1) | exact HB.out))) : w.heap.size ≤ gb387)); clear HB; have HB := n0_; have BK387 := n1_; have GW387 := n2_; have GE387 := n3_; clear n0_ n1_ n2_ n3_; clear hb hbox hg; have hcz4_0 : w3.cell? ⟨gb387, 0, none⟩ = some (.bool true) := (blk_cell BK387.out 0).trans rfl; have hcz4_1 : w3.cell? ⟨gb387, 1, none⟩ = some (.slice A0_1 l0_1.length c0_1) := (blk_cell BK387.out 1).trans rfl; have hfz4_0 := blk_frozen BK387.out 0; have hfz4_1 := blk_frozen BK387.out 1))
    go_ret
    exact ⟨by first | rfl | exact ne_empty _ | exact eq_empty _ | (simp [errW_none, errW_some] <;> rfl) | (simp [*, errW_none, errW_some] <;> rfl), by repeat (first | (with_reducible first | exact HB.out | apply below_alloc | apply pw_below_drewN | apply below_drew1 | refine below_set ?_ GE387.out) | exact HB.out)⟩
  · replace c2 := Bool.eq_false_iff.mpr c2
    subst c2
    have H1 : (cond_Print.l0 k ([] : List ByteArray) l0_1 (l0_1.length : Int) 0) = some r := by rw [if_neg (show ¬ (false = true) by decide)] at H; exact H
    clear H
    have H := H1
    clear H1
    have H' := Aside0.mk H
    clear H
    go_enter Try.func28, Try.ntmps28
    go_wp2_with (first | ((with_reducible refine gate_dst (N := 1) rfl ?_); refine box_event ?hg (N := 1) ?hd (cs := #[.bool false, .slice A0_1 l0_1.length c0_1]) (t := 40) ?hr ?_; (case hd => rfl); (case hg => rfl); (case hr => first | (go_simp; done) | (go_simp; rfl)); intro gb387 hg w5 hbox hb; have n0_ := Aside0.mk (below_step (by repeat (first | (with_reducible first | exact HB.out | apply below_alloc | apply pw_below_drewN | apply below_drew1) | exact HB.out)) hb); have n1_ := Aside0.mk (hbox); have n2_ := Aside0.mk ((by rw [hg]; exact (below_size (by repeat (first | (with_reducible first | exact HB.out | apply below_alloc | apply pw_below_drewN | apply below_drew1) | exact HB.out))) : w.heap.size ≤ gb387)); have n3_ := Aside0.mk ((by rw [hg]; exact (below_size (by repeat (first | (with_reducible first | exact HB.out | apply below_alloc | apply pw_below_drewN | apply below_drew1) | exact HB.out))) : w.heap.size ≤ gb387)); clear HB; have HB := n0_; have BK387 := n1_; have GW387 := n2_; have GE387 := n3_; clear n0_ n1_ n2_ n3_; clear hb hbox hg; have hcz6_0 : w5.cell? ⟨gb387, 0, none⟩ = some (.bool false) := (blk_cell BK387.out 0).trans rfl; have hcz6_1 : w5.cell? ⟨gb387, 1, none⟩ = some (.slice A0_1 l0_1.length c0_1) := (blk_cell BK387.out 1).trans rfl; have hfz6_0 := blk_frozen BK387.out 0; have hfz6_1 := blk_frozen BK387.out 1))
    go_loopg [3, 11] k (fun kq v3 v11 w' => ∃ (x3_1 : List ByteArray) (x11_1 : Int), v11 = .int .i64 x11_1 ∧ Aside0 (cond_Print.l0 kq x3_1 l0_1 (l0_1.length : Int) x11_1 = some r) ∧ Aside0 (kq ≤ k) ∧ Aside0 (Kd.R Kd.string 9 w' w.heap.size (fun _ => True) v3 x3_1) ∧ Aside0 (w'.heap[gb387]? = some (.cells #[.bool false, (.slice A0_1 l0_1.length c0_1)] 40 (0, 0))) ∧ Aside0 (Below w.heap.size w w'))
    case atStart => exact ⟨(([] : List ByteArray)), (0), (by first | rfl | (simp; done) | (simp [*]; done)), H', ⟨Nat.le_refl _⟩, ⟨by first | exact Kd.R_nil _ _ _ _ _ | exact Kd.N_nil _ _ _ _ _ | exact Kd.V_nil _ _ _ _ _ | exact Kd.Q_nil _ _ _ _ _ | exact Kd.S_nil _ _ _ _ _⟩, ⟨by (with_reducible repeat (first | refine blk_drewN ?_ _ | refine blk_drew ?_ | refine blk_alloc ?_ _)); exact BK387.out⟩, ⟨by repeat (first | (with_reducible first | exact HB.out | apply below_alloc | apply pw_below_drewN | apply below_drew1 | refine below_set ?_ GE387.out) | exact HB.out)⟩⟩
    case round =>
      clear H'
      try clear c2
      try clear p2
      try clear hcz4_0
      try clear hcz4_1
      try clear hcz6_0
      try clear hcz6_1
      try clear hfz4_0
      try clear hfz4_1
      try clear hfz6_0
      try clear hfz6_1
      obtain ⟨x3_1, x11_1, rfl, HA, HK1, HO_3, BK387, HB⟩ := hrel
      cases gk with
      | zero => exact absurd HA.out (by simp [cond_Print.l0])
      | succ k1 =>
        have H := HA.out
        clear HA
        simp only [cond_Print.l0] at H
        by_cases c7 : x11_1 < (l0_1.length : Int)
        · rw [if_pos c7] at H
          have c7b0 : decide (x11_1 < (l0_1.length : Int)) = true := decide_eq_true c7
          clear c7
          by_cases c8 : 0 ≤ x11_1
          · rw [if_pos c8] at H
            have c8b0 : decide (0 ≤ x11_1) = true := decide_eq_true c8
            clear c8
            by_cases c9 : x11_1 < (l0_1.length : Int)
            · rw [if_pos c9] at H
              have c9b0 : decide (x11_1 < (l0_1.length : Int)) = true := decide_eq_true c9
              clear c9
              replace H := Option.bind_eq_some_iff.mp H
              obtain ⟨t390, A100, H⟩ := H
              replace H : (if x3_1.length < 8796093022208 then (cond_Print.l0 k1 (x3_1 ++ [t390]) l0_1 (l0_1.length : Int) (wrap64 (x11_1 + 1))) else (none)) = some r := H
              have A10 := Aside0.mk A100
              clear A100
              by_cases c11 : x3_1.length < 8796093022208
              · rw [if_pos c11] at H
                have LMc11 := Aside0.mk c11
                clear c11
                obtain ⟨y391, hy391⟩ : ∃ y_ : List ByteArray, y_ = (x3_1 ++ [t390]) := ⟨_, rfl⟩
                replace H : (cond_Print.l0 k1 y391 l0_1 (l0_1.length : Int) (wrap64 (x11_1 + 1))) = some r := by first | (rw [hy391]; with_reducible exact H) | (have H2_ := (Option.bind_some _ _).symm.trans H; rw [hy391]; with_reducible exact H2_) | (have H2_ := (Option.bind_some _ _).symm.trans H; with_reducible exact H2_) | with_reducible exact H | (rw [hy391]; exact H) | exact H
                have Ny391 := Aside0.mk hy391
                clear hy391
                have H' := Aside0.mk H
                clear H
                have p388 : 0 ≤ (x11_1 : Int) := of_decide_eq_true (by first | (with_reducible assumption) | assumption)
                have q388 : x11_1 < (l0_1.length : Int) := of_decide_eq_true (by first | (with_reducible assumption) | assumption)
                obtain ⟨ad388, e388, hx388_0, hx388_1⟩ := at_T51 HR0_1.out x11_1 p388 q388
                cases e388
                replace hx388_0 := (HB.out.cell (World.block_lt_of_cell? w _ hx388_0)).trans hx388_0
                replace hx388_1 := (HB.out.cell (World.block_lt_of_cell? w _ hx388_1)).trans hx388_1
                replace p388 := eq_true p388
                replace q388 := eq_true q388
                go_wp2_with (first | ((with_reducible refine gate_dst (N := 5) rfl ?_); refine box_event ?hg (N := 5) ?hd (cs := #[.bool false, .string (⟨#[]⟩ : ByteArray)]) (t := 51) ?hr ?_; (case hd => rfl); (case hg => rfl); (case hr => first | (go_simp; done) | (go_simp; rfl)); intro gb389 hg w12 hbox hb; have n0_ := Aside0.mk (Kd.R_below (by (with_reducible repeat (first | apply Kd.R_alloc | apply Kd.R_drewN | apply Kd.R_drew)); exact HO_3.out) hb); have n1_ := Aside0.mk (blk_below (g := gb387) (o := .cells #[.bool false, .slice (some ad388) l0_1.length c0_1] 40 (0, 0)) (by (with_reducible repeat (first | refine blk_drewN ?_ _ | refine blk_drew ?_ | refine blk_alloc ?_ _)); exact BK387.out) hb); have n2_ := Aside0.mk (below_step (by repeat (first | (with_reducible first | exact HB.out | apply below_alloc | apply pw_below_drewN | apply below_drew1 | refine below_set ?_ GE387.out) | exact HB.out)) hb); have n3_ := Aside0.mk (hbox); have n4_ := Aside0.mk ((by rw [hg]; exact (below_size (by repeat (first | (with_reducible first | exact HB.out | apply below_alloc | apply pw_below_drewN | apply below_drew1 | refine below_set ?_ GE387.out) | exact HB.out))) : w.heap.size ≤ gb389)); have n5_ := Aside0.mk ((by rw [hg]; exact (below_size (by repeat (first | (with_reducible first | exact HB.out | apply below_alloc | apply pw_below_drewN | apply below_drew1 | refine below_set ?_ GE387.out) | exact HB.out))) : w.heap.size ≤ gb389)); have n6_ := Aside0.mk ((by rw [hg]; exact Nat.ne_of_lt (blk_lt (g := gb387) (o := .cells #[.bool false, .slice (some ad388) l0_1.length c0_1] 40 (0, 0)) (by (with_reducible repeat (first | refine blk_drewN ?_ _ | refine blk_drew ?_ | refine blk_alloc ?_ _)); exact BK387.out)) : gb387 ≠ gb389)); have n7_ := Aside0.mk ((by rw [hg]; exact Nat.ne_of_gt (blk_lt (g := gb387) (o := .cells #[.bool false, .slice (some ad388) l0_1.length c0_1] 40 (0, 0)) (by (with_reducible repeat (first | refine blk_drewN ?_ _ | refine blk_drew ?_ | refine blk_alloc ?_ _)); exact BK387.out)) : gb389 ≠ gb387)); clear HO_3; clear BK387; clear HB; have HO_3 := n0_; have BK387 := n1_; have HB := n2_; have BK389 := n3_; have GW389 := n4_; have GE389 := n5_; have NB387_389 := n6_; have NB389_387 := n7_; clear n0_ n1_ n2_ n3_ n4_ n5_ n6_ n7_; clear hb hbox hg; have hnb13 := NB389_387.out; have hnc13 := NB387_389.out; have hcz14_0 : w12.cell? ⟨gb389, 0, none⟩ = some (.bool false) := (blk_cell BK389.out 0).trans rfl; have hcz14_1 : w12.cell? ⟨gb389, 1, none⟩ = some (.string (⟨#[]⟩ : ByteArray)) := (blk_cell BK389.out 1).trans rfl; have hfz14_0 := blk_frozen BK389.out 0; have hfz14_1 := blk_frozen BK389.out 1) | ((with_reducible refine gate_callee (f := 54) rfl ?_); refine goesL_ (some 17) rfl rfl Try.func54 (by kernel_rfl) rfl #[.agg #[.bool ((rd_T51 l0_1 x11_1).f0), .string ((rd_T51 l0_1 x11_1).f1)]] rfl (by (try simp only [List.map_toArray, List.map_cons, List.map_nil]); first | done | rfl | (simp only [List.length_drop, List.length_take]; rfl)) ?_; (with_reducible refine (etag_Print.calls ((rd_T51 l0_1 x11_1).f0) ((rd_T51 l0_1 x11_1).f1) t390 _ A10.out).mono ?_); rintro e w15 ⟨rfl, hb⟩; refine ⟨_, rfl, ?_⟩; have n0_ := Aside0.mk (Kd.R_below (by (with_reducible repeat (first | apply Kd.R_alloc | apply Kd.R_drewN | apply Kd.R_drew)); exact (Kd.R_mono (Kd.R_far (p := ⟨gb389, 1, none⟩) (Kd.R_far (p := ⟨gb389, 0, none⟩) (Kd.R_types HO_3.out BK389.out (by decide)) (fun _ hk => hk.2) (.bool ((rd_T51 l0_1 x11_1).f0))) (fun _ hk => hk.2) (.string ((rd_T51 l0_1 x11_1).f1))) (fun _ h_ => h_.1))) hb); have n1_ := Aside0.mk (blk_below (g := gb387) (o := .cells #[.bool false, .slice (some ad388) l0_1.length c0_1] 40 (0, 0)) (by (with_reducible repeat (first | refine blk_drewN ?_ _ | refine blk_drew ?_ | refine blk_alloc ?_ _)); refine blk_far ?_ NB387_389.out _; (with_reducible repeat (first | refine blk_drewN ?_ _ | refine blk_drew ?_ | refine blk_alloc ?_ _)); refine blk_far ?_ NB387_389.out _; (with_reducible repeat (first | refine blk_drewN ?_ _ | refine blk_drew ?_ | refine blk_alloc ?_ _)); exact BK387.out) hb); have n2_ := Aside0.mk (blk_below (g := gb389) (o := .cells #[.bool ((rd_T51 l0_1 x11_1).f0), .string ((rd_T51 l0_1 x11_1).f1)] 51 (0, 0)) (by (with_reducible repeat (first | refine blk_drewN ?_ _ | refine blk_drew ?_ | refine blk_alloc ?_ _)); refine blk_put (cs := #[.bool ((rd_T51 l0_1 x11_1).f0), .string (⟨#[]⟩ : ByteArray)]) ?_ 1 _ rfl; (with_reducible repeat (first | refine blk_drewN ?_ _ | refine blk_drew ?_ | refine blk_alloc ?_ _)); refine blk_put (cs := #[.bool false, .string (⟨#[]⟩ : ByteArray)]) ?_ 0 _ rfl; (with_reducible repeat (first | refine blk_drewN ?_ _ | refine blk_drew ?_ | refine blk_alloc ?_ _)); exact BK389.out) hb); have n3_ := Aside0.mk (below_step (by repeat (first | (with_reducible first | exact HB.out | apply below_alloc | apply pw_below_drewN | apply below_drew1 | refine below_set ?_ GE387.out | refine below_set ?_ GE389.out) | exact HB.out)) hb); clear HO_3; clear BK387; clear BK389; clear HB; have HO_3 := n0_; have BK387 := n1_; have BK389 := n2_; have HB := n3_; clear n0_ n1_ n2_ n3_; (try clear hb); (try clear hb2); (try clear hk); (try clear hi)) | ((with_reducible refine gate_builtin (b := .append) (xs := #[.tmp 15, .tmp 18]) rfl ?_); at_builtin; refine Kd.R_append Kd.string (w0 := w) w.heap.size rfl (.tmp 15) (.tmp 18) 67 9 (.string ⟨#[]⟩) 16 rfl Try.underlying67 info9 rfl (by decide) (by omega) u3 x3_1 t390 [.string t390] (fun _ => True) (fun _ => False) rfl rfl ?aP (fun _ hk => hk.elim) ?aF ?aO ?aB ?aS ?aL ?_; (case aP => exact rfl); (case aB => exact (by repeat (first | (with_reducible first | exact HB.out | apply below_alloc | apply pw_below_drewN | apply below_drew1 | refine below_set ?_ GE387.out | refine below_set ?_ GE389.out) | exact HB.out))); (case aF => exact (fun _ _ => trivial)); (case aO => exact (by (with_reducible repeat (first | apply Kd.R_alloc | apply Kd.R_drewN | apply Kd.R_drew)); exact HO_3.out)); (case aS => exact (below_size (by repeat (first | (with_reducible first | exact HB.out | apply below_alloc | apply pw_below_drewN | apply below_drew1 | refine below_set ?_ GE387.out | refine below_set ?_ GE389.out) | exact HB.out)))); (case aL => have := LMc11.out; omega); intro v392 w16 ho hb hg hat; rw [← Ny391.out] at ho; have n0_ := Aside0.mk (blk_grown (g := gb387) (o := .cells #[.bool false, .slice (some ad388) l0_1.length c0_1] 40 (0, 0)) (by (with_reducible repeat (first | refine blk_drewN ?_ _ | refine blk_drew ?_ | refine blk_alloc ?_ _)); exact BK387.out) hg (Kd.R_ne HO_3.out BK387.out (by decide))); have n1_ := Aside0.mk (blk_grown (g := gb389) (o := .cells #[.bool ((rd_T51 l0_1 x11_1).f0), .string ((rd_T51 l0_1 x11_1).f1)] 51 (0, 0)) (by (with_reducible repeat (first | refine blk_drewN ?_ _ | refine blk_drew ?_ | refine blk_alloc ?_ _)); exact BK389.out) hg (Kd.R_ne HO_3.out BK389.out (by decide))); have n2_ := Aside0.mk (hb); have n3_ := Aside0.mk (ho); clear BK387; clear BK389; clear HB; clear HO_3; have BK387 := n0_; have BK389 := n1_; have HB := n2_; have HO393 := n3_; clear n0_ n1_ n2_ n3_; clear ho hb hg hat))
                go_roundg k1
                case measure => have := HK1.out; omega
                case rel => exact ⟨(y391), (wrap64 (x11_1 + 1)), (by first | rfl | (simp; done) | (simp [*]; done)), H', ⟨by have := HK1.out; omega⟩, ⟨by (with_reducible repeat (first | apply Kd.R_alloc | apply Kd.R_drewN | apply Kd.R_drew)); exact HO393.out⟩, ⟨by (with_reducible repeat (first | refine blk_drewN ?_ _ | refine blk_drew ?_ | refine blk_alloc ?_ _)); exact BK387.out⟩, ⟨by repeat (first | (with_reducible first | exact HB.out | apply below_alloc | apply pw_below_drewN | apply below_drew1 | refine below_set ?_ GE387.out | refine below_set ?_ GE389.out) | exact HB.out)⟩⟩
              · rw [if_neg c11] at H
                exact absurd H (by simp)
            · rw [if_neg c9] at H
              exact absurd H (by simp)
          · rw [if_neg c8] at H
            exact absurd H (by simp)
        · rw [if_neg c7] at H
          have c7b0 : decide (x11_1 < (l0_1.length : Int)) = false := decide_eq_false c7
          clear c7
          replace H := Option.bind_eq_some_iff.mp H
          obtain ⟨t394, A170, H⟩ := H
          replace H : (some t394) = some r := H
          have A17 := Aside0.mk A170
          clear A170
          obtain rfl := Option.some.inj H
          obtain ⟨Ao18, co18, eo18⟩ := Kd.R_slice HO_3.out
          subst eo18
          go_wp2_with (first | ((with_reducible refine gate_callee (f := 55) rfl ?_); refine goesL_ (some 22) rfl rfl Try.func55 (by kernel_rfl) rfl #[.slice Ao18 x3_1.length co18, .string (⟨#[44, 32]⟩ : ByteArray)] rfl (by (try simp only [List.map_toArray, List.map_cons, List.map_nil]); first | done | rfl | (simp only [List.length_drop, List.length_take]; rfl)) ?_; (with_reducible refine (strings_Join.calls _ _ x3_1 (⟨#[44, 32]⟩ : ByteArray) t394 _ ?side1 ?side2 A17.out).mono ?_); (case side1 => repeat (first | exact (Kd.R_reads' HO_3.out).2.2 | (with_reducible refine Kd.C_alloc ?_ _) | (with_reducible refine Kd.C_drewN ?_ _) | (with_reducible refine Kd.C_drew ?_))); (case side2 => exact (Kd.R_reads' HO_3.out).2.1); rintro e w19 ⟨rfl, hb⟩; refine ⟨_, rfl, ?_⟩; have n0_ := Aside0.mk (Kd.R_below (by (with_reducible repeat (first | apply Kd.R_alloc | apply Kd.R_drewN | apply Kd.R_drew)); exact HO_3.out) hb); have n1_ := Aside0.mk (blk_below (g := gb387) (o := .cells #[.bool false, .slice A0_1 l0_1.length c0_1] 40 (0, 0)) (by (with_reducible repeat (first | refine blk_drewN ?_ _ | refine blk_drew ?_ | refine blk_alloc ?_ _)); exact BK387.out) hb); have n2_ := Aside0.mk (below_step (by repeat (first | (with_reducible first | exact HB.out | apply below_alloc | apply pw_below_drewN | apply below_drew1 | refine below_set ?_ GE387.out) | exact HB.out)) hb); clear HO_3; clear BK387; clear HB; have HO_3 := n0_; have BK387 := n1_; have HB := n2_; clear n0_ n1_ n2_; (try clear hb); (try clear hb2); (try clear hk); (try clear hi)))
          go_ret
          exact ⟨by first | rfl | exact ne_empty _ | exact eq_empty _ | (simp [errW_none, errW_some] <;> rfl) | (simp [*, errW_none, errW_some] <;> rfl), by repeat (first | (with_reducible first | exact HB.out | apply below_alloc | apply pw_below_drewN | apply below_drew1 | refine below_set ?_ GE387.out) | exact HB.out)⟩
end Go.Proofs.Ytahoibanpplhbaa.PAll
namespace Go.Proofs.Ytahoibanpplhbaa.PAll
open Go.RowKit Go.Proofs.Ytahoibanpplhbaa.Xw Go.Proofs.YtahoibanpplhbaaW.PrintWords Go.Proofs.YtahoibanpplhbaaW.PrintLast Go.Proofs.YtahoibanpplhbaaW.PrintMore
attribute [local go_sem] max2_int min2_int max_two min_two max_three min_three max_four min_four   -- for this text's walks alone
set_option linter.unusedVariables false
set_option linter.unusedSimpArgs false
mutual
def spencelaw46_CondBack.j0 : Nat → Bool → Bool → List (S51) → Option (Bool)
  | 0, _, _, _ => none
  | k + 1, x3, x396000, x396001 => spencelaw46_CondBack.l0 k x3 (⟨#[]⟩ : ByteArray) x396001 (x396001.length : Int) 0 x396000 x396001
def spencelaw46_CondBack.l0 : Nat → Bool → ByteArray → List (S51) → Int → Int → Bool → List (S51) → Option (Bool)
  | 0, _, _, _, _, _, _, _ => none
  | k + 1, x3, x4, x41, x42, x43, x396000, x396001 => if x43 < x42 then (if 0 ≤ x43 then (if x43 < (x41.length : Int) then (if (((rd_T51 x41 x43).f1).size : Int) > 100 then (some true) else (if x3 = true then (if (((rd_T51 x41 x43).f1).size : Int) ≤ 40 then ((spenceref04_Tag.f k ((rd_T51 x41 x43).f1)).bind fun t399 => (if x43 > 0 then (if x4.size + 2 ≤ 9223372036854775807 then ((spenceref04_PrintTag.f ((rd_T51 x41 x43).f0) ((rd_T51 x41 x43).f1)).bind fun t400 => (if x4.size + 2 + t400.size ≤ 9223372036854775807 then (spencelaw46_CondBack.l0 k t399 ((x4 ++ (⟨#[44, 32]⟩ : ByteArray)) ++ t400) x41 x42 (wrap64 (x43 + 1)) x396000 x396001) else (none))) else (none)) else ((spenceref04_PrintTag.f ((rd_T51 x41 x43).f0) ((rd_T51 x41 x43).f1)).bind fun t401 => (if x4.size + t401.size ≤ 9223372036854775807 then (spencelaw46_CondBack.l0 k t399 (x4 ++ t401) x41 x42 (wrap64 (x43 + 1)) x396000 x396001) else (none))))) else (if x43 > 0 then (if x4.size + 2 ≤ 9223372036854775807 then ((spenceref04_PrintTag.f ((rd_T51 x41 x43).f0) ((rd_T51 x41 x43).f1)).bind fun t402 => (if x4.size + 2 + t402.size ≤ 9223372036854775807 then (spencelaw46_CondBack.l0 k false ((x4 ++ (⟨#[44, 32]⟩ : ByteArray)) ++ t402) x41 x42 (wrap64 (x43 + 1)) x396000 x396001) else (none))) else (none)) else ((spenceref04_PrintTag.f ((rd_T51 x41 x43).f0) ((rd_T51 x41 x43).f1)).bind fun t403 => (if x4.size + t403.size ≤ 9223372036854775807 then (spencelaw46_CondBack.l0 k false (x4 ++ t403) x41 x42 (wrap64 (x43 + 1)) x396000 x396001) else (none))))) else (if x43 > 0 then (if x4.size + 2 ≤ 9223372036854775807 then ((spenceref04_PrintTag.f ((rd_T51 x41 x43).f0) ((rd_T51 x41 x43).f1)).bind fun t404 => (if x4.size + 2 + t404.size ≤ 9223372036854775807 then (spencelaw46_CondBack.l0 k false ((x4 ++ (⟨#[44, 32]⟩ : ByteArray)) ++ t404) x41 x42 (wrap64 (x43 + 1)) x396000 x396001) else (none))) else (none)) else ((spenceref04_PrintTag.f ((rd_T51 x41 x43).f0) ((rd_T51 x41 x43).f1)).bind fun t405 => (if x4.size + t405.size ≤ 9223372036854775807 then (spencelaw46_CondBack.l0 k false (x4 ++ t405) x41 x42 (wrap64 (x43 + 1)) x396000 x396001) else (none)))))) else (none)) else (none)) else (if x396000 = true then (spencelaw46_CondBack.j2 k x3 (⟨#[42]⟩ : ByteArray) x396000 x396001) else (spencelaw46_CondBack.j2 k x3 x4 x396000 x396001))
def spencelaw46_CondBack.j2 : Nat → Bool → ByteArray → Bool → List (S51) → Option (Bool)
  | 0, _, _, _, _ => none
  | k + 1, x3, x4, x396000, x396001 => (cond_Right.f k x396000 x396001).bind fun t406 => (if (t406 != x3) = true then (spencelaw46_CondBack.j3 k x3 x4 true x396000 x396001) else ((cond_Print.f k x396000 x396001).bind fun t407 => (spencelaw46_CondBack.j3 k x3 x4 (t407.toList != x4.toList) x396000 x396001)))
def spencelaw46_CondBack.j3 : Nat → Bool → ByteArray → Bool → Bool → List (S51) → Option (Bool)
  | 0, _, _, _, _, _ => none
  | k + 1, x3, x4, x84, x396000, x396001 => if x84 = true then (some false) else ((cond_Parse.f k x4).bind fun bt408 => (if x3 = true then (if bt408.2.2 = 0 then (if (bt408.1 == x396000) = true then ((spencelaw46_same.f k bt408.2.1 x396001).bind fun t414 => (some t414)) else (some false)) else (some false)) else (some true)))
end
def spencelaw46_CondBack.f (k : Nat) (a0_0 : Bool) (l0_1 : List (S51)) : Option (Bool) := (spencelaw46_awake.f k).bind fun t396 => (if t396 = true then (if (l0_1.length : Int) > 30 then (some true) else (if a0_0 = true then (if (l0_1.length : Int) = 0 then (spencelaw46_CondBack.j0 k true a0_0 l0_1) else (spencelaw46_CondBack.j0 k false a0_0 l0_1)) else (if (l0_1.length : Int) > 0 then (spencelaw46_CondBack.j0 k (decide ((l0_1.length : Int) ≤ 16)) a0_0 l0_1) else (spencelaw46_CondBack.j0 k false a0_0 l0_1)))) else (some false))
theorem spencelaw46_CondBack.mono_l : ∀ k, (∀ y0 y1 y2, LeO (spencelaw46_CondBack.j0 k y0 y1 y2) (spencelaw46_CondBack.j0 (k + 1) y0 y1 y2)) ∧ (∀ y0 y1 y2 y3 y4 y5 y6, LeO (spencelaw46_CondBack.l0 k y0 y1 y2 y3 y4 y5 y6) (spencelaw46_CondBack.l0 (k + 1) y0 y1 y2 y3 y4 y5 y6)) ∧ (∀ y0 y1 y2 y3, LeO (spencelaw46_CondBack.j2 k y0 y1 y2 y3) (spencelaw46_CondBack.j2 (k + 1) y0 y1 y2 y3)) ∧ (∀ y0 y1 y2 y3 y4, LeO (spencelaw46_CondBack.j3 k y0 y1 y2 y3 y4) (spencelaw46_CondBack.j3 (k + 1) y0 y1 y2 y3 y4))
  | 0 => ⟨fun _ _ _ r h => by simp [spencelaw46_CondBack.j0] at h, fun _ _ _ _ _ _ _ r h => by simp [spencelaw46_CondBack.l0] at h, fun _ _ _ _ r h => by simp [spencelaw46_CondBack.j2] at h, fun _ _ _ _ _ r h => by simp [spencelaw46_CondBack.j3] at h⟩
  | k + 1 => by
    obtain ⟨ih0, ih1, ih2, ih3⟩ := spencelaw46_CondBack.mono_l k
    refine ⟨?_, ?_, ?_, ?_⟩
    · intro y0 y1 y2
      unfold spencelaw46_CondBack.j0
      repeat' first
      | (with_reducible exact ih0 _ _ _)
      | (with_reducible exact ih1 _ _ _ _ _ _ _)
      | (with_reducible exact ih2 _ _ _ _)
      | (with_reducible exact ih3 _ _ _ _ _)
      | (with_reducible exact cond_Parse.mono _ _)
      | (with_reducible exact cond_Print.mono _ _ _)
      | (with_reducible exact cond_Right.mono _ _ _)
      | (with_reducible exact spencelaw46_awake.mono _)
      | (with_reducible exact spencelaw46_same.mono _ _ _)
      | (with_reducible exact spenceref04_Tag.mono _ _)
      | (with_reducible exact LeO.refl _)
      | (with_reducible exact LeO.none _)
      | (with_reducible refine LeO.ite ?_ ?_)
      | (with_reducible refine LeO.bind ?_ (fun _ => ?_))
      | exact ih0 _ _ _
      | exact ih1 _ _ _ _ _ _ _
      | exact ih2 _ _ _ _
      | exact ih3 _ _ _ _ _
      | exact cond_Parse.mono _ _
      | exact cond_Print.mono _ _ _
      | exact cond_Right.mono _ _ _
      | exact spencelaw46_awake.mono _
      | exact spencelaw46_same.mono _ _ _
      | exact spenceref04_Tag.mono _ _
      | exact LeO.none _
      | refine LeO.ite ?_ ?_
      | refine LeO.bind ?_ (fun _ => ?_)
    · intro y0 y1 y2 y3 y4 y5 y6
      unfold spencelaw46_CondBack.l0
      repeat' first
      | (with_reducible exact ih0 _ _ _)
      | (with_reducible exact ih1 _ _ _ _ _ _ _)
      | (with_reducible exact ih2 _ _ _ _)
      | (with_reducible exact ih3 _ _ _ _ _)
      | (with_reducible exact cond_Parse.mono _ _)
      | (with_reducible exact cond_Print.mono _ _ _)
      | (with_reducible exact cond_Right.mono _ _ _)
      | (with_reducible exact spencelaw46_awake.mono _)
      | (with_reducible exact spencelaw46_same.mono _ _ _)
      | (with_reducible exact spenceref04_Tag.mono _ _)
      | (with_reducible exact LeO.refl _)
      | (with_reducible exact LeO.none _)
      | (with_reducible refine LeO.ite ?_ ?_)
      | (with_reducible refine LeO.bind ?_ (fun _ => ?_))
      | exact ih0 _ _ _
      | exact ih1 _ _ _ _ _ _ _
      | exact ih2 _ _ _ _
      | exact ih3 _ _ _ _ _
      | exact cond_Parse.mono _ _
      | exact cond_Print.mono _ _ _
      | exact cond_Right.mono _ _ _
      | exact spencelaw46_awake.mono _
      | exact spencelaw46_same.mono _ _ _
      | exact spenceref04_Tag.mono _ _
      | exact LeO.none _
      | refine LeO.ite ?_ ?_
      | refine LeO.bind ?_ (fun _ => ?_)
    · intro y0 y1 y2 y3
      unfold spencelaw46_CondBack.j2
      repeat' first
      | (with_reducible exact ih0 _ _ _)
      | (with_reducible exact ih1 _ _ _ _ _ _ _)
      | (with_reducible exact ih2 _ _ _ _)
      | (with_reducible exact ih3 _ _ _ _ _)
      | (with_reducible exact cond_Parse.mono _ _)
      | (with_reducible exact cond_Print.mono _ _ _)
      | (with_reducible exact cond_Right.mono _ _ _)
      | (with_reducible exact spencelaw46_awake.mono _)
      | (with_reducible exact spencelaw46_same.mono _ _ _)
      | (with_reducible exact spenceref04_Tag.mono _ _)
      | (with_reducible exact LeO.refl _)
      | (with_reducible exact LeO.none _)
      | (with_reducible refine LeO.ite ?_ ?_)
      | (with_reducible refine LeO.bind ?_ (fun _ => ?_))
      | exact ih0 _ _ _
      | exact ih1 _ _ _ _ _ _ _
      | exact ih2 _ _ _ _
      | exact ih3 _ _ _ _ _
      | exact cond_Parse.mono _ _
      | exact cond_Print.mono _ _ _
      | exact cond_Right.mono _ _ _
      | exact spencelaw46_awake.mono _
      | exact spencelaw46_same.mono _ _ _
      | exact spenceref04_Tag.mono _ _
      | exact LeO.none _
      | refine LeO.ite ?_ ?_
      | refine LeO.bind ?_ (fun _ => ?_)
    · intro y0 y1 y2 y3 y4
      unfold spencelaw46_CondBack.j3
      repeat' first
      | (with_reducible exact ih0 _ _ _)
      | (with_reducible exact ih1 _ _ _ _ _ _ _)
      | (with_reducible exact ih2 _ _ _ _)
      | (with_reducible exact ih3 _ _ _ _ _)
      | (with_reducible exact cond_Parse.mono _ _)
      | (with_reducible exact cond_Print.mono _ _ _)
      | (with_reducible exact cond_Right.mono _ _ _)
      | (with_reducible exact spencelaw46_awake.mono _)
      | (with_reducible exact spencelaw46_same.mono _ _ _)
      | (with_reducible exact spenceref04_Tag.mono _ _)
      | (with_reducible exact LeO.refl _)
      | (with_reducible exact LeO.none _)
      | (with_reducible refine LeO.ite ?_ ?_)
      | (with_reducible refine LeO.bind ?_ (fun _ => ?_))
      | exact ih0 _ _ _
      | exact ih1 _ _ _ _ _ _ _
      | exact ih2 _ _ _ _
      | exact ih3 _ _ _ _ _
      | exact cond_Parse.mono _ _
      | exact cond_Print.mono _ _ _
      | exact cond_Right.mono _ _ _
      | exact spencelaw46_awake.mono _
      | exact spencelaw46_same.mono _ _ _
      | exact spenceref04_Tag.mono _ _
      | exact LeO.none _
      | refine LeO.ite ?_ ?_
      | refine LeO.bind ?_ (fun _ => ?_)
theorem spencelaw46_CondBack.mono : ∀ a0 a1 k, LeO (spencelaw46_CondBack.f k a0 a1) (spencelaw46_CondBack.f (k + 1) a0 a1) := by
  intro a0 a1 k
  obtain ⟨ih0, ih1, ih2, ih3⟩ := spencelaw46_CondBack.mono_l k
  unfold spencelaw46_CondBack.f
  repeat' first
      | (with_reducible exact ih0 _ _ _)
      | (with_reducible exact ih1 _ _ _ _ _ _ _)
      | (with_reducible exact ih2 _ _ _ _)
      | (with_reducible exact ih3 _ _ _ _ _)
      | (with_reducible exact cond_Parse.mono _ _)
      | (with_reducible exact cond_Print.mono _ _ _)
      | (with_reducible exact cond_Right.mono _ _ _)
      | (with_reducible exact spencelaw46_awake.mono _)
      | (with_reducible exact spencelaw46_same.mono _ _ _)
      | (with_reducible exact spenceref04_Tag.mono _ _)
      | (with_reducible exact LeO.refl _)
      | (with_reducible exact LeO.none _)
      | (with_reducible refine LeO.ite ?_ ?_)
      | (with_reducible refine LeO.bind ?_ (fun _ => ?_))
      | exact ih0 _ _ _
      | exact ih1 _ _ _ _ _ _ _
      | exact ih2 _ _ _ _
      | exact ih3 _ _ _ _ _
      | exact cond_Parse.mono _ _
      | exact cond_Print.mono _ _ _
      | exact cond_Right.mono _ _ _
      | exact spencelaw46_awake.mono _
      | exact spencelaw46_same.mono _ _ _
      | exact spenceref04_Tag.mono _ _
      | exact LeO.none _
      | refine LeO.ite ?_ ?_
      | refine LeO.bind ?_ (fun _ => ?_)
set_option maxHeartbeats 8000000 in
set_option maxRecDepth 100000 in
theorem spencelaw46_CondBack.calls (k : Nat) (a0_0 : Bool) (A0_1 : Option Addr) (c0_1 : Nat) (l0_1 : List (S51)) (r : Bool) (w : World) (hr0_1 : Kd.C k51 w A0_1 l0_1.length l0_1) (hc0_1 : l0_1.length ≤ c0_1) (h : spencelaw46_CondBack.f k a0_0 l0_1 = some r) :
    Calls Try.prog 8 #[.agg #[.bool a0_0, .slice A0_1 l0_1.length c0_1]] w fun e w' => e = .returned (.bool r) ∧ Below w.heap.size w w' := by
  have hu40 := Try.underlying40
  have hu51 := Try.underlying51
  have HR0_1 := Aside0.mk hr0_1
  have HC0_1 := Aside0.mk hc0_1
  clear hr0_1 hc0_1
  have HB := Aside0.mk (Below.refl w.heap.size w)
  have H : ((spencelaw46_awake.f k).bind fun t396 => (if t396 = true then (if (l0_1.length : Int) > 30 then (some true) else (if a0_0 = true then (if (l0_1.length : Int) = 0 then (spencelaw46_CondBack.j0 k true a0_0 l0_1) else (spencelaw46_CondBack.j0 k false a0_0 l0_1)) else (if (l0_1.length : Int) > 0 then (spencelaw46_CondBack.j0 k (decide ((l0_1.length : Int) ≤ 16)) a0_0 l0_1) else (spencelaw46_CondBack.j0 k false a0_0 l0_1)))) else (some false))) = some r := h
  clear h
  replace H := Option.bind_eq_some_iff.mp H
  obtain ⟨t396, A20, H⟩ := H
  replace H : (if t396 = true then (if (l0_1.length : Int) > 30 then (some true) else (if a0_0 = true then (if (l0_1.length : Int) = 0 then (spencelaw46_CondBack.j0 k true a0_0 l0_1) else (spencelaw46_CondBack.j0 k false a0_0 l0_1)) else (if (l0_1.length : Int) > 0 then (spencelaw46_CondBack.j0 k (decide ((l0_1.length : Int) ≤ 16)) a0_0 l0_1) else (spencelaw46_CondBack.j0 k false a0_0 l0_1)))) else (some false)) = some r := H
  have A2 := Aside0.mk A20
  clear A20
  by_cases c3 : t396 = true
  · subst c3
    have H1 : (if (l0_1.length : Int) > 30 then (some true) else (if a0_0 = true then (if (l0_1.length : Int) = 0 then (spencelaw46_CondBack.j0 k true a0_0 l0_1) else (spencelaw46_CondBack.j0 k false a0_0 l0_1)) else (if (l0_1.length : Int) > 0 then (spencelaw46_CondBack.j0 k (decide ((l0_1.length : Int) ≤ 16)) a0_0 l0_1) else (spencelaw46_CondBack.j0 k false a0_0 l0_1)))) = some r := by rw [if_pos rfl] at H; exact H
    clear H
    have H := H1
    clear H1
    by_cases c4 : (l0_1.length : Int) > 30
    · rw [if_pos c4] at H
      have c4b0 : decide (30 < (l0_1.length : Int)) = true := decide_eq_true c4
      have c4b1 : decide (30 < l0_1.length) = true := decide_eq_true (by omega)
      clear c4
      obtain rfl := Option.some.inj H
      go_enter Try.func8, Try.ntmps8
      go_wp2_with (first | ((with_reducible refine gate_dst (N := 1) rfl ?_); (try (refine gate_guard (by rfl) ?_; dsimp only)); refine box_event ?hg (N := 1) ?hd (cs := #[.bool a0_0, .slice A0_1 l0_1.length c0_1]) (t := 40) ?hr ?_; (case hd => rfl); (case hg => rfl); (case hr => first | (go_simp; done) | (go_simp; rfl)); intro gb395 hg w5 hbox hb; have n0_ := Aside0.mk (below_step (by repeat (first | (with_reducible first | exact HB.out | apply below_alloc | apply pw_below_drewN | apply below_drew1) | exact HB.out)) hb); have n1_ := Aside0.mk (hbox); have n2_ := Aside0.mk ((by rw [hg]; exact (below_size (by repeat (first | (with_reducible first | exact HB.out | apply below_alloc | apply pw_below_drewN | apply below_drew1) | exact HB.out))) : w.heap.size ≤ gb395)); have n3_ := Aside0.mk ((by rw [hg]; exact (below_size (by repeat (first | (with_reducible first | exact HB.out | apply below_alloc | apply pw_below_drewN | apply below_drew1) | exact HB.out))) : w.heap.size ≤ gb395)); clear HB; have HB := n0_; have BK395 := n1_; have GW395 := n2_; have GE395 := n3_; clear n0_ n1_ n2_ n3_; clear hb hbox hg) | ((with_reducible refine gate_callee (f := 17) rfl ?_); refine goesL_ (some 9) rfl rfl Try.func17 (by kernel_rfl) rfl #[] rfl (by (try simp only [List.map_toArray, List.map_cons, List.map_nil]); first | done | rfl | (simp only [List.length_drop, List.length_take]; rfl)) ?_; (with_reducible refine (spencelaw46_awake.calls k  true _ A2.out).mono ?_); rintro e w6 ⟨rfl, hb⟩; refine ⟨_, rfl, ?_⟩; have n0_ := Aside0.mk (blk_below (g := gb395) (o := .cells #[.bool a0_0, .slice A0_1 l0_1.length c0_1] 40 (0, 0)) (by (with_reducible repeat (first | refine blk_drewN ?_ _ | refine blk_drew ?_ | refine blk_alloc ?_ _)); exact BK395.out) hb); have n1_ := Aside0.mk (below_step (by repeat (first | (with_reducible first | exact HB.out | apply below_alloc | apply pw_below_drewN | apply below_drew1 | refine below_set ?_ GE395.out) | exact HB.out)) hb); clear BK395; clear HB; have BK395 := n0_; have HB := n1_; clear n0_ n1_; (try clear hb); (try clear hb2); (try clear hk); (try clear hi); have hcz7_0 : w6.cell? ⟨gb395, 0, none⟩ = some (.bool a0_0) := (blk_cell BK395.out 0).trans rfl; have hcz7_1 : w6.cell? ⟨gb395, 1, none⟩ = some (.slice A0_1 l0_1.length c0_1) := (blk_cell BK395.out 1).trans rfl; have hfz7_0 := blk_frozen BK395.out 0; have hfz7_1 := blk_frozen BK395.out 1))
      go_ret
      exact ⟨by first | rfl | exact ne_empty _ | exact eq_empty _ | (simp [errW_none, errW_some] <;> rfl) | (simp [*, errW_none, errW_some] <;> rfl), by repeat (first | (with_reducible first | exact HB.out | apply below_alloc | apply pw_below_drewN | apply below_drew1 | refine below_set ?_ GE395.out) | exact HB.out)⟩
    · rw [if_neg c4] at H
      have c4b0 : decide (30 < (l0_1.length : Int)) = false := decide_eq_false c4
      have c4b1 : decide (30 < l0_1.length) = false := decide_eq_false (by omega)
      clear c4
      have HC8 := Aside0.mk H
      clear H
      go_enter Try.func8, Try.ntmps8
      go_upto_region 5 with (first | ((with_reducible refine gate_dst (N := 1) rfl ?_); (try (refine gate_guard (by rfl) ?_; dsimp only)); refine box_event ?hg (N := 1) ?hd (cs := #[.bool a0_0, .slice A0_1 l0_1.length c0_1]) (t := 40) ?hr ?_; (case hd => rfl); (case hg => rfl); (case hr => first | (go_simp; done) | (go_simp; rfl)); intro gb395 hg w9 hbox hb; have n0_ := Aside0.mk (below_step (by repeat (first | (with_reducible first | exact HB.out | apply below_alloc | apply pw_below_drewN | apply below_drew1) | exact HB.out)) hb); have n1_ := Aside0.mk (hbox); have n2_ := Aside0.mk ((by rw [hg]; exact (below_size (by repeat (first | (with_reducible first | exact HB.out | apply below_alloc | apply pw_below_drewN | apply below_drew1) | exact HB.out))) : w.heap.size ≤ gb395)); have n3_ := Aside0.mk ((by rw [hg]; exact (below_size (by repeat (first | (with_reducible first | exact HB.out | apply below_alloc | apply pw_below_drewN | apply below_drew1) | exact HB.out))) : w.heap.size ≤ gb395)); clear HB; have HB := n0_; have BK395 := n1_; have GW395 := n2_; have GE395 := n3_; clear n0_ n1_ n2_ n3_; clear hb hbox hg) | ((with_reducible refine gate_callee (f := 17) rfl ?_); refine goesL_ (some 9) rfl rfl Try.func17 (by kernel_rfl) rfl #[] rfl (by (try simp only [List.map_toArray, List.map_cons, List.map_nil]); first | done | rfl | (simp only [List.length_drop, List.length_take]; rfl)) ?_; (with_reducible refine (spencelaw46_awake.calls k  true _ A2.out).mono ?_); rintro e w10 ⟨rfl, hb⟩; refine ⟨_, rfl, ?_⟩; have n0_ := Aside0.mk (blk_below (g := gb395) (o := .cells #[.bool a0_0, .slice A0_1 l0_1.length c0_1] 40 (0, 0)) (by (with_reducible repeat (first | refine blk_drewN ?_ _ | refine blk_drew ?_ | refine blk_alloc ?_ _)); exact BK395.out) hb); have n1_ := Aside0.mk (below_step (by repeat (first | (with_reducible first | exact HB.out | apply below_alloc | apply pw_below_drewN | apply below_drew1 | refine below_set ?_ GE395.out) | exact HB.out)) hb); clear BK395; clear HB; have BK395 := n0_; have HB := n1_; clear n0_ n1_; (try clear hb); (try clear hb2); (try clear hk); (try clear hi); have hcz11_0 : w10.cell? ⟨gb395, 0, none⟩ = some (.bool a0_0) := (blk_cell BK395.out 0).trans rfl; have hcz11_1 : w10.cell? ⟨gb395, 1, none⟩ = some (.slice A0_1 l0_1.length c0_1) := (blk_cell BK395.out 1).trans rfl; have hfz11_0 := blk_frozen BK395.out 0; have hfz11_1 := blk_frozen BK395.out 1))
      (try simp only [Act.put, List.setIfInBounds_toArray, List.set_cons_zero, List.set_cons_succ])
      go_cut [3] (fun v3 wc => ∃ (kq : Nat) (x3_7 : Bool), v3 = .bool x3_7 ∧ Aside0 (spencelaw46_CondBack.j0 kq x3_7 a0_0 l0_1 = some r) ∧ Aside0 (kq ≤ k) ∧ Aside0 (wc.heap[gb395]? = some (.cells #[.bool a0_0, (.slice A0_1 l0_1.length c0_1)] 40 (0, 0))) ∧ Aside0 (Below w.heap.size w wc))
      case first =>
        have H := HC8.out
        clear HC8
        by_cases c12 : a0_0 = true
        · subst c12
          have H1 : (if (l0_1.length : Int) = 0 then (spencelaw46_CondBack.j0 k true true l0_1) else (spencelaw46_CondBack.j0 k false true l0_1)) = some r := by rw [if_pos rfl] at H; exact H
          clear H
          have H := H1
          clear H1
          by_cases c13 : (l0_1.length : Int) = 0
          · rw [if_pos c13] at H
            have c13b0 : ((l0_1.length : Int) == 0) = true := beq_iff_eq.mpr c13
            have c13b1 : ((l0_1.length : Int) != 0) = false := bne_eq_false_iff_eq.mpr c13
            clear c13
            (first | rw [c13b0] | (simp only [i64_w, i32_w]; rw [c13b0]) | skip)
            have H' := Aside0.mk H
            clear H
            have hcz14_0 : w10.cell? ⟨gb395, 0, none⟩ = some (.bool true) := (blk_cell BK395.out 0).trans rfl
            have hcz14_1 : w10.cell? ⟨gb395, 1, none⟩ = some (.slice A0_1 l0_1.length c0_1) := (blk_cell BK395.out 1).trans rfl
            have hfz14_0 := blk_frozen BK395.out 0
            have hfz14_1 := blk_frozen BK395.out 1
            go_wp2
            go_meet
            case rel => exact ⟨_, (true), (by first | rfl | (simp; done) | (simp [*]; done)), H', ⟨by first | omega | exact Nat.le_refl _⟩, ⟨by (with_reducible repeat (first | refine blk_drewN ?_ _ | refine blk_drew ?_ | refine blk_alloc ?_ _)); exact BK395.out⟩, ⟨by repeat (first | (with_reducible first | exact HB.out | apply below_alloc | apply pw_below_drewN | apply below_drew1 | refine below_set ?_ GE395.out) | exact HB.out)⟩⟩
          · rw [if_neg c13] at H
            have c13b0 : ((l0_1.length : Int) == 0) = false := beq_eq_false_iff_ne.mpr c13
            have c13b1 : ((l0_1.length : Int) != 0) = true := bne_iff_ne.mpr c13
            have c13b2 : ¬ (l0_1 = []) := fun h_ => c13 (by rw [h_]; rfl)
            (first | rw [c13b0] | (simp only [i64_w, i32_w]; rw [c13b0]) | skip)
            have H' := Aside0.mk H
            clear H
            have hcz15_0 : w10.cell? ⟨gb395, 0, none⟩ = some (.bool true) := (blk_cell BK395.out 0).trans rfl
            have hcz15_1 : w10.cell? ⟨gb395, 1, none⟩ = some (.slice A0_1 l0_1.length c0_1) := (blk_cell BK395.out 1).trans rfl
            have hfz15_0 := blk_frozen BK395.out 0
            have hfz15_1 := blk_frozen BK395.out 1
            go_wp2
            go_meet
            case rel => exact ⟨_, (false), (by first | rfl | (simp; done) | (simp [*]; done)), H', ⟨by first | omega | exact Nat.le_refl _⟩, ⟨by (with_reducible repeat (first | refine blk_drewN ?_ _ | refine blk_drew ?_ | refine blk_alloc ?_ _)); exact BK395.out⟩, ⟨by repeat (first | (with_reducible first | exact HB.out | apply below_alloc | apply pw_below_drewN | apply below_drew1 | refine below_set ?_ GE395.out) | exact HB.out)⟩⟩
        · replace c12 := Bool.eq_false_iff.mpr c12
          subst c12
          have H1 : (if (l0_1.length : Int) > 0 then (spencelaw46_CondBack.j0 k (decide ((l0_1.length : Int) ≤ 16)) false l0_1) else (spencelaw46_CondBack.j0 k false false l0_1)) = some r := by rw [if_neg (show ¬ (false = true) by decide)] at H; exact H
          clear H
          have H := H1
          clear H1
          by_cases c16 : (l0_1.length : Int) > 0
          · rw [if_pos c16] at H
            have c16b0 : decide (0 < (l0_1.length : Int)) = true := decide_eq_true c16
            have c16b1 : decide (0 < l0_1.length) = true := decide_eq_true (by omega)
            clear c16
            have H' := Aside0.mk H
            clear H
            have hcz17_0 : w10.cell? ⟨gb395, 0, none⟩ = some (.bool false) := (blk_cell BK395.out 0).trans rfl
            have hcz17_1 : w10.cell? ⟨gb395, 1, none⟩ = some (.slice A0_1 l0_1.length c0_1) := (blk_cell BK395.out 1).trans rfl
            have hfz17_0 := blk_frozen BK395.out 0
            have hfz17_1 := blk_frozen BK395.out 1
            go_wp2
            go_meet
            case rel => exact ⟨_, (decide ((l0_1.length : Int) ≤ 16)), (by first | rfl | (simp; done) | (simp [*]; done)), H', ⟨by first | omega | exact Nat.le_refl _⟩, ⟨by (with_reducible repeat (first | refine blk_drewN ?_ _ | refine blk_drew ?_ | refine blk_alloc ?_ _)); exact BK395.out⟩, ⟨by repeat (first | (with_reducible first | exact HB.out | apply below_alloc | apply pw_below_drewN | apply below_drew1 | refine below_set ?_ GE395.out) | exact HB.out)⟩⟩
          · rw [if_neg c16] at H
            have c16b0 : decide (0 < (l0_1.length : Int)) = false := decide_eq_false c16
            have c16b1 : decide (0 < l0_1.length) = false := decide_eq_false (by omega)
            clear c16
            have H' := Aside0.mk H
            clear H
            have hcz18_0 : w10.cell? ⟨gb395, 0, none⟩ = some (.bool false) := (blk_cell BK395.out 0).trans rfl
            have hcz18_1 : w10.cell? ⟨gb395, 1, none⟩ = some (.slice A0_1 l0_1.length c0_1) := (blk_cell BK395.out 1).trans rfl
            have hfz18_0 := blk_frozen BK395.out 0
            have hfz18_1 := blk_frozen BK395.out 1
            go_wp2
            go_meet
            case rel => exact ⟨_, (false), (by first | rfl | (simp; done) | (simp [*]; done)), H', ⟨by first | omega | exact Nat.le_refl _⟩, ⟨by (with_reducible repeat (first | refine blk_drewN ?_ _ | refine blk_drew ?_ | refine blk_alloc ?_ _)); exact BK395.out⟩, ⟨by repeat (first | (with_reducible first | exact HB.out | apply below_alloc | apply pw_below_drewN | apply below_drew1 | refine below_set ?_ GE395.out) | exact HB.out)⟩⟩
      case rest =>
        clear HC8
        try clear c1
        try clear p2
        try clear c3
        try clear c4
        try clear c4b0
        try clear c4b1
        try clear c8
        try clear c12
        try clear c13
        try clear c13b0
        try clear c13b1
        try clear c13b2
        try clear c16
        try clear c16b0
        try clear c16b1
        try clear c17
        try clear hcz11_0
        try clear hcz11_1
        try clear hcz14_0
        try clear hcz14_1
        try clear hcz15_0
        try clear hcz15_1
        try clear hcz17_0
        try clear hcz17_1
        try clear hcz18_0
        try clear hcz18_1
        try clear hcz7_0
        try clear hcz7_1
        try clear hfz11_0
        try clear hfz11_1
        try clear hfz14_0
        try clear hfz14_1
        try clear hfz15_0
        try clear hfz15_1
        try clear hfz17_0
        try clear hfz17_1
        try clear hfz18_0
        try clear hfz18_1
        try clear hfz7_0
        try clear hfz7_1
        obtain ⟨kq, x3_7, rfl, HA, HJ7, BK395, HB⟩ := hcut
        cases kq with
        | zero => exact absurd HA.out (by simp [spencelaw46_CondBack.j0])
        | succ kj7 =>
          have H := HA.out
          clear HA
          simp only [spencelaw46_CondBack.j0] at H
          have H' := Aside0.mk H
          clear H
          have hcz19_0 : wc.cell? ⟨gb395, 0, none⟩ = some (.bool a0_0) := (blk_cell BK395.out 0).trans rfl
          have hcz19_1 : wc.cell? ⟨gb395, 1, none⟩ = some (.slice A0_1 l0_1.length c0_1) := (blk_cell BK395.out 1).trans rfl
          have hfz19_0 := blk_frozen BK395.out 0
          have hfz19_1 := blk_frozen BK395.out 1
          go_wp2
          go_loopg [3, 4, 43] kj7 (fun kq v3 v4 v43 w' => ∃ (x3_2 : Bool) (x4_2 : ByteArray) (x43_2 : Int), v3 = .bool x3_2 ∧ v4 = .string x4_2 ∧ v43 = .int .i64 x43_2 ∧ Aside0 (spencelaw46_CondBack.l0 kq x3_2 x4_2 l0_1 (l0_1.length : Int) x43_2 a0_0 l0_1 = some r) ∧ Aside0 (kq ≤ kj7) ∧ Aside0 (w'.heap[gb395]? = some (.cells #[.bool a0_0, (.slice A0_1 l0_1.length c0_1)] 40 (0, 0))) ∧ Aside0 (Below w.heap.size w w'))
          case atStart => exact ⟨(x3_7), ((⟨#[]⟩ : ByteArray)), (0), (by first | rfl | (simp; done) | (simp [*]; done)), (by first | rfl | (simp; done) | (simp [*]; done)), (by first | rfl | (simp; done) | (simp [*]; done)), H', ⟨Nat.le_refl _⟩, ⟨by (with_reducible repeat (first | refine blk_drewN ?_ _ | refine blk_drew ?_ | refine blk_alloc ?_ _)); exact BK395.out⟩, ⟨by repeat (first | (with_reducible first | exact HB.out | apply below_alloc | apply pw_below_drewN | apply below_drew1 | refine below_set ?_ GE395.out) | exact HB.out)⟩⟩
          case round =>
            clear H'
            try clear c1
            try clear p2
            try clear c3
            try clear c4
            try clear c4b0
            try clear c4b1
            try clear c8
            try clear c12
            try clear c13
            try clear c13b0
            try clear c13b1
            try clear c13b2
            try clear c16
            try clear c16b0
            try clear c16b1
            try clear c17
            try clear hcz11_0
            try clear hcz11_1
            try clear hcz14_0
            try clear hcz14_1
            try clear hcz15_0
            try clear hcz15_1
            try clear hcz17_0
            try clear hcz17_1
            try clear hcz18_0
            try clear hcz18_1
            try clear hcz19_0
            try clear hcz19_1
            try clear hcz7_0
            try clear hcz7_1
            try clear hfz11_0
            try clear hfz11_1
            try clear hfz14_0
            try clear hfz14_1
            try clear hfz15_0
            try clear hfz15_1
            try clear hfz17_0
            try clear hfz17_1
            try clear hfz18_0
            try clear hfz18_1
            try clear hfz19_0
            try clear hfz19_1
            try clear hfz7_0
            try clear hfz7_1
            try clear p2
            obtain ⟨x3_2, x4_2, x43_2, rfl, rfl, rfl, HA, HK2, BK395, HB⟩ := hrel
            cases gk with
            | zero => exact absurd HA.out (by simp [spencelaw46_CondBack.l0])
            | succ k2 =>
              have H := HA.out
              clear HA
              simp only [spencelaw46_CondBack.l0] at H
              by_cases c20 : x43_2 < (l0_1.length : Int)
              · rw [if_pos c20] at H
                have c20b0 : decide (x43_2 < (l0_1.length : Int)) = true := decide_eq_true c20
                clear c20
                by_cases c21 : 0 ≤ x43_2
                · rw [if_pos c21] at H
                  have c21b0 : decide (0 ≤ x43_2) = true := decide_eq_true c21
                  clear c21
                  by_cases c22 : x43_2 < (l0_1.length : Int)
                  · rw [if_pos c22] at H
                    have c22b0 : decide (x43_2 < (l0_1.length : Int)) = true := decide_eq_true c22
                    clear c22
                    by_cases c23 : (((rd_T51 l0_1 x43_2).f1).size : Int) > 100
                    · rw [if_pos c23] at H
                      have c23b0 : decide (100 < (((rd_T51 l0_1 x43_2).f1).size : Int)) = true := decide_eq_true c23
                      have c23b1 : decide (100 < ((rd_T51 l0_1 x43_2).f1).size) = true := decide_eq_true (by omega)
                      clear c23
                      obtain rfl := Option.some.inj H
                      have p397 : 0 ≤ (x43_2 : Int) := of_decide_eq_true (by first | (with_reducible assumption) | assumption)
                      have q397 : x43_2 < (l0_1.length : Int) := of_decide_eq_true (by first | (with_reducible assumption) | assumption)
                      obtain ⟨ad397, e397, hx397_0, hx397_1⟩ := at_T51 HR0_1.out x43_2 p397 q397
                      cases e397
                      replace hx397_0 := (HB.out.cell (World.block_lt_of_cell? w _ hx397_0)).trans hx397_0
                      replace hx397_1 := (HB.out.cell (World.block_lt_of_cell? w _ hx397_1)).trans hx397_1
                      replace p397 := eq_true p397
                      replace q397 := eq_true q397
                      go_wp2_with (first | ((with_reducible refine gate_dst (N := 6) rfl ?_); (try (refine gate_guard (by rfl) ?_; dsimp only)); refine box_event ?hg (N := 6) ?hd (cs := #[.bool false, .string (⟨#[]⟩ : ByteArray)]) (t := 51) ?hr ?_; (case hd => rfl); (case hg => rfl); (case hr => first | (go_simp; done) | (go_simp; rfl)); intro gb398 hg w24 hbox hb; have n0_ := Aside0.mk (blk_below (g := gb395) (o := .cells #[.bool a0_0, .slice (some ad397) l0_1.length c0_1] 40 (0, 0)) (by (with_reducible repeat (first | refine blk_drewN ?_ _ | refine blk_drew ?_ | refine blk_alloc ?_ _)); exact BK395.out) hb); have n1_ := Aside0.mk (below_step (by repeat (first | (with_reducible first | exact HB.out | apply below_alloc | apply pw_below_drewN | apply below_drew1 | refine below_set ?_ GE395.out) | exact HB.out)) hb); have n2_ := Aside0.mk (hbox); have n3_ := Aside0.mk ((by rw [hg]; exact (below_size (by repeat (first | (with_reducible first | exact HB.out | apply below_alloc | apply pw_below_drewN | apply below_drew1 | refine below_set ?_ GE395.out) | exact HB.out))) : w.heap.size ≤ gb398)); have n4_ := Aside0.mk ((by rw [hg]; exact (below_size (by repeat (first | (with_reducible first | exact HB.out | apply below_alloc | apply pw_below_drewN | apply below_drew1 | refine below_set ?_ GE395.out) | exact HB.out))) : w.heap.size ≤ gb398)); have n5_ := Aside0.mk ((by rw [hg]; exact Nat.ne_of_lt (blk_lt (g := gb395) (o := .cells #[.bool a0_0, .slice (some ad397) l0_1.length c0_1] 40 (0, 0)) (by (with_reducible repeat (first | refine blk_drewN ?_ _ | refine blk_drew ?_ | refine blk_alloc ?_ _)); exact BK395.out)) : gb395 ≠ gb398)); have n6_ := Aside0.mk ((by rw [hg]; exact Nat.ne_of_gt (blk_lt (g := gb395) (o := .cells #[.bool a0_0, .slice (some ad397) l0_1.length c0_1] 40 (0, 0)) (by (with_reducible repeat (first | refine blk_drewN ?_ _ | refine blk_drew ?_ | refine blk_alloc ?_ _)); exact BK395.out)) : gb398 ≠ gb395)); clear BK395; clear HB; have BK395 := n0_; have HB := n1_; have BK398 := n2_; have GW398 := n3_; have GE398 := n4_; have NB395_398 := n5_; have NB398_395 := n6_; clear n0_ n1_ n2_ n3_ n4_ n5_ n6_; clear hb hbox hg; have hnb25 := NB398_395.out; have hnc25 := NB395_398.out; have hcz26_0 : w24.cell? ⟨gb398, 0, none⟩ = some (.bool false) := (blk_cell BK398.out 0).trans rfl; have hcz26_1 : w24.cell? ⟨gb398, 1, none⟩ = some (.string (⟨#[]⟩ : ByteArray)) := (blk_cell BK398.out 1).trans rfl; have hfz26_0 := blk_frozen BK398.out 0; have hfz26_1 := blk_frozen BK398.out 1))
                      go_ret
                      exact ⟨by first | rfl | exact ne_empty _ | exact eq_empty _ | (simp [errW_none, errW_some] <;> rfl) | (simp [*, errW_none, errW_some] <;> rfl), by repeat (first | (with_reducible first | exact HB.out | apply below_alloc | apply pw_below_drewN | apply below_drew1 | refine below_set ?_ GE395.out | refine below_set ?_ GE398.out) | exact HB.out)⟩
                    · rw [if_neg c23] at H
                      have c23b0 : decide (100 < (((rd_T51 l0_1 x43_2).f1).size : Int)) = false := decide_eq_false c23
                      have c23b1 : decide (100 < ((rd_T51 l0_1 x43_2).f1).size) = false := decide_eq_false (by omega)
                      clear c23
                      by_cases c27 : x3_2 = true
                      · subst c27
                        have H1 : (if (((rd_T51 l0_1 x43_2).f1).size : Int) ≤ 40 then ((spenceref04_Tag.f k2 ((rd_T51 l0_1 x43_2).f1)).bind fun t399 => (if x43_2 > 0 then (if x4_2.size + 2 ≤ 9223372036854775807 then ((spenceref04_PrintTag.f ((rd_T51 l0_1 x43_2).f0) ((rd_T51 l0_1 x43_2).f1)).bind fun t400 => (if x4_2.size + 2 + t400.size ≤ 9223372036854775807 then (spencelaw46_CondBack.l0 k2 t399 ((x4_2 ++ (⟨#[44, 32]⟩ : ByteArray)) ++ t400) l0_1 (l0_1.length : Int) (wrap64 (x43_2 + 1)) a0_0 l0_1) else (none))) else (none)) else ((spenceref04_PrintTag.f ((rd_T51 l0_1 x43_2).f0) ((rd_T51 l0_1 x43_2).f1)).bind fun t401 => (if x4_2.size + t401.size ≤ 9223372036854775807 then (spencelaw46_CondBack.l0 k2 t399 (x4_2 ++ t401) l0_1 (l0_1.length : Int) (wrap64 (x43_2 + 1)) a0_0 l0_1) else (none))))) else (if x43_2 > 0 then (if x4_2.size + 2 ≤ 9223372036854775807 then ((spenceref04_PrintTag.f ((rd_T51 l0_1 x43_2).f0) ((rd_T51 l0_1 x43_2).f1)).bind fun t402 => (if x4_2.size + 2 + t402.size ≤ 9223372036854775807 then (spencelaw46_CondBack.l0 k2 false ((x4_2 ++ (⟨#[44, 32]⟩ : ByteArray)) ++ t402) l0_1 (l0_1.length : Int) (wrap64 (x43_2 + 1)) a0_0 l0_1) else (none))) else (none)) else ((spenceref04_PrintTag.f ((rd_T51 l0_1 x43_2).f0) ((rd_T51 l0_1 x43_2).f1)).bind fun t403 => (if x4_2.size + t403.size ≤ 9223372036854775807 then (spencelaw46_CondBack.l0 k2 false (x4_2 ++ t403) l0_1 (l0_1.length : Int) (wrap64 (x43_2 + 1)) a0_0 l0_1) else (none))))) = some r := by rw [if_pos rfl] at H; exact H
                        clear H
                        have H := H1
                        clear H1
                        by_cases c28 : (((rd_T51 l0_1 x43_2).f1).size : Int) ≤ 40
                        · rw [if_pos c28] at H
                          have c28b0 : decide ((((rd_T51 l0_1 x43_2).f1).size : Int) ≤ 40) = true := decide_eq_true c28
                          have c28b1 : decide (((rd_T51 l0_1 x43_2).f1).size ≤ 40) = true := decide_eq_true (by omega)
                          clear c28
                          replace H := Option.bind_eq_some_iff.mp H
                          obtain ⟨t399, A290, H⟩ := H
                          replace H : (if x43_2 > 0 then (if x4_2.size + 2 ≤ 9223372036854775807 then ((spenceref04_PrintTag.f ((rd_T51 l0_1 x43_2).f0) ((rd_T51 l0_1 x43_2).f1)).bind fun t400 => (if x4_2.size + 2 + t400.size ≤ 9223372036854775807 then (spencelaw46_CondBack.l0 k2 t399 ((x4_2 ++ (⟨#[44, 32]⟩ : ByteArray)) ++ t400) l0_1 (l0_1.length : Int) (wrap64 (x43_2 + 1)) a0_0 l0_1) else (none))) else (none)) else ((spenceref04_PrintTag.f ((rd_T51 l0_1 x43_2).f0) ((rd_T51 l0_1 x43_2).f1)).bind fun t401 => (if x4_2.size + t401.size ≤ 9223372036854775807 then (spencelaw46_CondBack.l0 k2 t399 (x4_2 ++ t401) l0_1 (l0_1.length : Int) (wrap64 (x43_2 + 1)) a0_0 l0_1) else (none)))) = some r := H
                          have A29 := Aside0.mk A290
                          clear A290
                          by_cases c30 : x43_2 > 0
                          · rw [if_pos c30] at H
                            have c30b0 : decide (0 < x43_2) = true := decide_eq_true c30
                            clear c30
                            by_cases c31 : x4_2.size + 2 ≤ 9223372036854775807
                            · rw [if_pos c31] at H
                              have c31b0 := eq_true c31
                              have c31b1 : decide (x4_2.size + 2 ≤ 9223372036854775807) = true := decide_eq_true c31
                              try have c31b2 : (9223372036854775807 < x4_2.size + 2) = False := eq_false (Nat.not_lt.2 c31)
                              replace H := Option.bind_eq_some_iff.mp H
                              obtain ⟨t400, A320, H⟩ := H
                              replace H : (if x4_2.size + 2 + t400.size ≤ 9223372036854775807 then (spencelaw46_CondBack.l0 k2 t399 ((x4_2 ++ (⟨#[44, 32]⟩ : ByteArray)) ++ t400) l0_1 (l0_1.length : Int) (wrap64 (x43_2 + 1)) a0_0 l0_1) else (none)) = some r := H
                              have A32 := Aside0.mk A320
                              clear A320
                              by_cases c33 : x4_2.size + 2 + t400.size ≤ 9223372036854775807
                              · rw [if_pos c33] at H
                                have c33b0 := eq_true c33
                                have c33b1 : decide (x4_2.size + 2 + t400.size ≤ 9223372036854775807) = true := decide_eq_true c33
                                try have c33b2 : (9223372036854775807 < x4_2.size + 2 + t400.size) = False := eq_false (Nat.not_lt.2 c33)
                                have H' := Aside0.mk H
                                clear H
                                have p397 : 0 ≤ (x43_2 : Int) := of_decide_eq_true (by first | (with_reducible assumption) | assumption)
                                have q397 : x43_2 < (l0_1.length : Int) := of_decide_eq_true (by first | (with_reducible assumption) | assumption)
                                obtain ⟨ad397, e397, hx397_0, hx397_1⟩ := at_T51 HR0_1.out x43_2 p397 q397
                                cases e397
                                replace hx397_0 := (HB.out.cell (World.block_lt_of_cell? w _ hx397_0)).trans hx397_0
                                replace hx397_1 := (HB.out.cell (World.block_lt_of_cell? w _ hx397_1)).trans hx397_1
                                replace p397 := eq_true p397
                                replace q397 := eq_true q397
                                go_wp2_with (first | ((with_reducible refine gate_dst (N := 6) rfl ?_); (try (refine gate_guard (by rfl) ?_; dsimp only)); refine box_event ?hg (N := 6) ?hd (cs := #[.bool false, .string (⟨#[]⟩ : ByteArray)]) (t := 51) ?hr ?_; (case hd => rfl); (case hg => rfl); (case hr => first | (go_simp; done) | (go_simp; rfl)); intro gb398 hg w34 hbox hb; have n0_ := Aside0.mk (blk_below (g := gb395) (o := .cells #[.bool a0_0, .slice (some ad397) l0_1.length c0_1] 40 (0, 0)) (by (with_reducible repeat (first | refine blk_drewN ?_ _ | refine blk_drew ?_ | refine blk_alloc ?_ _)); exact BK395.out) hb); have n1_ := Aside0.mk (below_step (by repeat (first | (with_reducible first | exact HB.out | apply below_alloc | apply pw_below_drewN | apply below_drew1 | refine below_set ?_ GE395.out) | exact HB.out)) hb); have n2_ := Aside0.mk (hbox); have n3_ := Aside0.mk ((by rw [hg]; exact (below_size (by repeat (first | (with_reducible first | exact HB.out | apply below_alloc | apply pw_below_drewN | apply below_drew1 | refine below_set ?_ GE395.out) | exact HB.out))) : w.heap.size ≤ gb398)); have n4_ := Aside0.mk ((by rw [hg]; exact (below_size (by repeat (first | (with_reducible first | exact HB.out | apply below_alloc | apply pw_below_drewN | apply below_drew1 | refine below_set ?_ GE395.out) | exact HB.out))) : w.heap.size ≤ gb398)); have n5_ := Aside0.mk ((by rw [hg]; exact Nat.ne_of_lt (blk_lt (g := gb395) (o := .cells #[.bool a0_0, .slice (some ad397) l0_1.length c0_1] 40 (0, 0)) (by (with_reducible repeat (first | refine blk_drewN ?_ _ | refine blk_drew ?_ | refine blk_alloc ?_ _)); exact BK395.out)) : gb395 ≠ gb398)); have n6_ := Aside0.mk ((by rw [hg]; exact Nat.ne_of_gt (blk_lt (g := gb395) (o := .cells #[.bool a0_0, .slice (some ad397) l0_1.length c0_1] 40 (0, 0)) (by (with_reducible repeat (first | refine blk_drewN ?_ _ | refine blk_drew ?_ | refine blk_alloc ?_ _)); exact BK395.out)) : gb398 ≠ gb395)); clear BK395; clear HB; have BK395 := n0_; have HB := n1_; have BK398 := n2_; have GW398 := n3_; have GE398 := n4_; have NB395_398 := n5_; have NB398_395 := n6_; clear n0_ n1_ n2_ n3_ n4_ n5_ n6_; clear hb hbox hg; have hnb35 := NB398_395.out; have hnc35 := NB395_398.out; have hcz36_0 : w34.cell? ⟨gb398, 0, none⟩ = some (.bool false) := (blk_cell BK398.out 0).trans rfl; have hcz36_1 : w34.cell? ⟨gb398, 1, none⟩ = some (.string (⟨#[]⟩ : ByteArray)) := (blk_cell BK398.out 1).trans rfl; have hfz36_0 := blk_frozen BK398.out 0; have hfz36_1 := blk_frozen BK398.out 1) | (go_at_call 25; (with_reducible refine (spenceref04_Tag.calls k2 ((rd_T51 l0_1 x43_2).f1) t399 _ A29.out).mono ?_); rintro e w' ⟨rfl, ⟨nd, rfl⟩⟩) | ((with_reducible refine gate_callee (f := 26) rfl ?_); refine goesL_ (some 70) rfl rfl Try.func26 (by kernel_rfl) rfl #[.agg #[.bool ((rd_T51 l0_1 x43_2).f0), .string ((rd_T51 l0_1 x43_2).f1)]] rfl (by (try simp only [List.map_toArray, List.map_cons, List.map_nil]); first | done | rfl | (simp only [List.length_drop, List.length_take]; rfl)) ?_; (with_reducible refine (spenceref04_PrintTag.calls ((rd_T51 l0_1 x43_2).f0) ((rd_T51 l0_1 x43_2).f1) t400 _ A32.out).mono ?_); rintro e w37 ⟨rfl, hb⟩; refine ⟨_, rfl, ?_⟩; have n0_ := Aside0.mk (blk_below (g := gb395) (o := .cells #[.bool a0_0, .slice (some ad397) l0_1.length c0_1] 40 (0, 0)) (by (with_reducible repeat (first | refine blk_drewN ?_ _ | refine blk_drew ?_ | refine blk_alloc ?_ _)); refine blk_far ?_ NB395_398.out _; (with_reducible repeat (first | refine blk_drewN ?_ _ | refine blk_drew ?_ | refine blk_alloc ?_ _)); refine blk_far ?_ NB395_398.out _; (with_reducible repeat (first | refine blk_drewN ?_ _ | refine blk_drew ?_ | refine blk_alloc ?_ _)); exact BK395.out) hb); have n1_ := Aside0.mk (blk_below (g := gb398) (o := .cells #[.bool ((rd_T51 l0_1 x43_2).f0), .string ((rd_T51 l0_1 x43_2).f1)] 51 (0, 0)) (by (with_reducible repeat (first | refine blk_drewN ?_ _ | refine blk_drew ?_ | refine blk_alloc ?_ _)); refine blk_put (cs := #[.bool ((rd_T51 l0_1 x43_2).f0), .string (⟨#[]⟩ : ByteArray)]) ?_ 1 _ rfl; (with_reducible repeat (first | refine blk_drewN ?_ _ | refine blk_drew ?_ | refine blk_alloc ?_ _)); refine blk_put (cs := #[.bool false, .string (⟨#[]⟩ : ByteArray)]) ?_ 0 _ rfl; (with_reducible repeat (first | refine blk_drewN ?_ _ | refine blk_drew ?_ | refine blk_alloc ?_ _)); exact BK398.out) hb); have n2_ := Aside0.mk (below_step (by repeat (first | (with_reducible first | exact HB.out | apply below_alloc | apply pw_below_drewN | apply below_drew1 | refine below_set ?_ GE395.out | refine below_set ?_ GE398.out) | exact HB.out)) hb); clear BK395; clear BK398; clear HB; have BK395 := n0_; have BK398 := n1_; have HB := n2_; clear n0_ n1_ n2_; (try clear hb); (try clear hb2); (try clear hk); (try clear hi)))
                                go_roundg k2
                                case measure => have := HJ7.out; have := HK2.out; omega
                                case rel => exact ⟨(t399), ((x4_2 ++ (⟨#[44, 32]⟩ : ByteArray)) ++ t400), (wrap64 (x43_2 + 1)), (by first | rfl | (simp; done) | (simp [*]; done)), (by first | rfl | (simp; done) | (simp [*]; done)), (by first | rfl | (simp; done) | (simp [*]; done)), H', ⟨by have := HJ7.out; have := HK2.out; omega⟩, ⟨by (with_reducible repeat (first | refine blk_drewN ?_ _ | refine blk_drew ?_ | refine blk_alloc ?_ _)); exact BK395.out⟩, ⟨by repeat (first | (with_reducible first | exact HB.out | apply below_alloc | apply pw_below_drewN | apply below_drew1 | refine below_set ?_ GE395.out | refine below_set ?_ GE398.out) | exact HB.out)⟩⟩
                              · rw [if_neg c33] at H
                                exact absurd H (by simp)
                            · rw [if_neg c31] at H
                              exact absurd H (by simp)
                          · rw [if_neg c30] at H
                            have c30b0 : decide (0 < x43_2) = false := decide_eq_false c30
                            clear c30
                            replace H := Option.bind_eq_some_iff.mp H
                            obtain ⟨t401, A380, H⟩ := H
                            replace H : (if x4_2.size + t401.size ≤ 9223372036854775807 then (spencelaw46_CondBack.l0 k2 t399 (x4_2 ++ t401) l0_1 (l0_1.length : Int) (wrap64 (x43_2 + 1)) a0_0 l0_1) else (none)) = some r := H
                            have A38 := Aside0.mk A380
                            clear A380
                            by_cases c39 : x4_2.size + t401.size ≤ 9223372036854775807
                            · rw [if_pos c39] at H
                              have c39b0 := eq_true c39
                              have c39b1 : decide (x4_2.size + t401.size ≤ 9223372036854775807) = true := decide_eq_true c39
                              try have c39b2 : (9223372036854775807 < x4_2.size + t401.size) = False := eq_false (Nat.not_lt.2 c39)
                              have H' := Aside0.mk H
                              clear H
                              have p397 : 0 ≤ (x43_2 : Int) := of_decide_eq_true (by first | (with_reducible assumption) | assumption)
                              have q397 : x43_2 < (l0_1.length : Int) := of_decide_eq_true (by first | (with_reducible assumption) | assumption)
                              obtain ⟨ad397, e397, hx397_0, hx397_1⟩ := at_T51 HR0_1.out x43_2 p397 q397
                              cases e397
                              replace hx397_0 := (HB.out.cell (World.block_lt_of_cell? w _ hx397_0)).trans hx397_0
                              replace hx397_1 := (HB.out.cell (World.block_lt_of_cell? w _ hx397_1)).trans hx397_1
                              replace p397 := eq_true p397
                              replace q397 := eq_true q397
                              go_wp2_with (first | ((with_reducible refine gate_dst (N := 6) rfl ?_); (try (refine gate_guard (by rfl) ?_; dsimp only)); refine box_event ?hg (N := 6) ?hd (cs := #[.bool false, .string (⟨#[]⟩ : ByteArray)]) (t := 51) ?hr ?_; (case hd => rfl); (case hg => rfl); (case hr => first | (go_simp; done) | (go_simp; rfl)); intro gb398 hg w40 hbox hb; have n0_ := Aside0.mk (blk_below (g := gb395) (o := .cells #[.bool a0_0, .slice (some ad397) l0_1.length c0_1] 40 (0, 0)) (by (with_reducible repeat (first | refine blk_drewN ?_ _ | refine blk_drew ?_ | refine blk_alloc ?_ _)); exact BK395.out) hb); have n1_ := Aside0.mk (below_step (by repeat (first | (with_reducible first | exact HB.out | apply below_alloc | apply pw_below_drewN | apply below_drew1 | refine below_set ?_ GE395.out) | exact HB.out)) hb); have n2_ := Aside0.mk (hbox); have n3_ := Aside0.mk ((by rw [hg]; exact (below_size (by repeat (first | (with_reducible first | exact HB.out | apply below_alloc | apply pw_below_drewN | apply below_drew1 | refine below_set ?_ GE395.out) | exact HB.out))) : w.heap.size ≤ gb398)); have n4_ := Aside0.mk ((by rw [hg]; exact (below_size (by repeat (first | (with_reducible first | exact HB.out | apply below_alloc | apply pw_below_drewN | apply below_drew1 | refine below_set ?_ GE395.out) | exact HB.out))) : w.heap.size ≤ gb398)); have n5_ := Aside0.mk ((by rw [hg]; exact Nat.ne_of_lt (blk_lt (g := gb395) (o := .cells #[.bool a0_0, .slice (some ad397) l0_1.length c0_1] 40 (0, 0)) (by (with_reducible repeat (first | refine blk_drewN ?_ _ | refine blk_drew ?_ | refine blk_alloc ?_ _)); exact BK395.out)) : gb395 ≠ gb398)); have n6_ := Aside0.mk ((by rw [hg]; exact Nat.ne_of_gt (blk_lt (g := gb395) (o := .cells #[.bool a0_0, .slice (some ad397) l0_1.length c0_1] 40 (0, 0)) (by (with_reducible repeat (first | refine blk_drewN ?_ _ | refine blk_drew ?_ | refine blk_alloc ?_ _)); exact BK395.out)) : gb398 ≠ gb395)); clear BK395; clear HB; have BK395 := n0_; have HB := n1_; have BK398 := n2_; have GW398 := n3_; have GE398 := n4_; have NB395_398 := n5_; have NB398_395 := n6_; clear n0_ n1_ n2_ n3_ n4_ n5_ n6_; clear hb hbox hg; have hnb41 := NB398_395.out; have hnc41 := NB395_398.out; have hcz42_0 : w40.cell? ⟨gb398, 0, none⟩ = some (.bool false) := (blk_cell BK398.out 0).trans rfl; have hcz42_1 : w40.cell? ⟨gb398, 1, none⟩ = some (.string (⟨#[]⟩ : ByteArray)) := (blk_cell BK398.out 1).trans rfl; have hfz42_0 := blk_frozen BK398.out 0; have hfz42_1 := blk_frozen BK398.out 1) | (go_at_call 25; (with_reducible refine (spenceref04_Tag.calls k2 ((rd_T51 l0_1 x43_2).f1) t399 _ A29.out).mono ?_); rintro e w' ⟨rfl, ⟨nd, rfl⟩⟩) | ((with_reducible refine gate_callee (f := 26) rfl ?_); refine goesL_ (some 70) rfl rfl Try.func26 (by kernel_rfl) rfl #[.agg #[.bool ((rd_T51 l0_1 x43_2).f0), .string ((rd_T51 l0_1 x43_2).f1)]] rfl (by (try simp only [List.map_toArray, List.map_cons, List.map_nil]); first | done | rfl | (simp only [List.length_drop, List.length_take]; rfl)) ?_; (with_reducible refine (spenceref04_PrintTag.calls ((rd_T51 l0_1 x43_2).f0) ((rd_T51 l0_1 x43_2).f1) t401 _ A38.out).mono ?_); rintro e w43 ⟨rfl, hb⟩; refine ⟨_, rfl, ?_⟩; have n0_ := Aside0.mk (blk_below (g := gb395) (o := .cells #[.bool a0_0, .slice (some ad397) l0_1.length c0_1] 40 (0, 0)) (by (with_reducible repeat (first | refine blk_drewN ?_ _ | refine blk_drew ?_ | refine blk_alloc ?_ _)); refine blk_far ?_ NB395_398.out _; (with_reducible repeat (first | refine blk_drewN ?_ _ | refine blk_drew ?_ | refine blk_alloc ?_ _)); refine blk_far ?_ NB395_398.out _; (with_reducible repeat (first | refine blk_drewN ?_ _ | refine blk_drew ?_ | refine blk_alloc ?_ _)); exact BK395.out) hb); have n1_ := Aside0.mk (blk_below (g := gb398) (o := .cells #[.bool ((rd_T51 l0_1 x43_2).f0), .string ((rd_T51 l0_1 x43_2).f1)] 51 (0, 0)) (by (with_reducible repeat (first | refine blk_drewN ?_ _ | refine blk_drew ?_ | refine blk_alloc ?_ _)); refine blk_put (cs := #[.bool ((rd_T51 l0_1 x43_2).f0), .string (⟨#[]⟩ : ByteArray)]) ?_ 1 _ rfl; (with_reducible repeat (first | refine blk_drewN ?_ _ | refine blk_drew ?_ | refine blk_alloc ?_ _)); refine blk_put (cs := #[.bool false, .string (⟨#[]⟩ : ByteArray)]) ?_ 0 _ rfl; (with_reducible repeat (first | refine blk_drewN ?_ _ | refine blk_drew ?_ | refine blk_alloc ?_ _)); exact BK398.out) hb); have n2_ := Aside0.mk (below_step (by repeat (first | (with_reducible first | exact HB.out | apply below_alloc | apply pw_below_drewN | apply below_drew1 | refine below_set ?_ GE395.out | refine below_set ?_ GE398.out) | exact HB.out)) hb); clear BK395; clear BK398; clear HB; have BK395 := n0_; have BK398 := n1_; have HB := n2_; clear n0_ n1_ n2_; (try clear hb); (try clear hb2); (try clear hk); (try clear hi)))
                              go_roundg k2
                              case measure => have := HJ7.out; have := HK2.out; omega
                              case rel => exact ⟨(t399), (x4_2 ++ t401), (wrap64 (x43_2 + 1)), (by first | rfl | (simp; done) | (simp [*]; done)), (by first | rfl | (simp; done) | (simp [*]; done)), (by first | rfl | (simp; done) | (simp [*]; done)), H', ⟨by have := HJ7.out; have := HK2.out; omega⟩, ⟨by (with_reducible repeat (first | refine blk_drewN ?_ _ | refine blk_drew ?_ | refine blk_alloc ?_ _)); exact BK395.out⟩, ⟨by repeat (first | (with_reducible first | exact HB.out | apply below_alloc | apply pw_below_drewN | apply below_drew1 | refine below_set ?_ GE395.out | refine below_set ?_ GE398.out) | exact HB.out)⟩⟩
                            · rw [if_neg c39] at H
                              exact absurd H (by simp)
                        · rw [if_neg c28] at H
                          have c28b0 : decide ((((rd_T51 l0_1 x43_2).f1).size : Int) ≤ 40) = false := decide_eq_false c28
                          have c28b1 : decide (((rd_T51 l0_1 x43_2).f1).size ≤ 40) = false := decide_eq_false (by omega)
                          clear c28
                          by_cases c44 : x43_2 > 0
                          · rw [if_pos c44] at H
                            have c44b0 : decide (0 < x43_2) = true := decide_eq_true c44
                            clear c44
                            by_cases c45 : x4_2.size + 2 ≤ 9223372036854775807
                            · rw [if_pos c45] at H
                              have c45b0 := eq_true c45
                              have c45b1 : decide (x4_2.size + 2 ≤ 9223372036854775807) = true := decide_eq_true c45
                              try have c45b2 : (9223372036854775807 < x4_2.size + 2) = False := eq_false (Nat.not_lt.2 c45)
                              replace H := Option.bind_eq_some_iff.mp H
                              obtain ⟨t402, A460, H⟩ := H
                              replace H : (if x4_2.size + 2 + t402.size ≤ 9223372036854775807 then (spencelaw46_CondBack.l0 k2 false ((x4_2 ++ (⟨#[44, 32]⟩ : ByteArray)) ++ t402) l0_1 (l0_1.length : Int) (wrap64 (x43_2 + 1)) a0_0 l0_1) else (none)) = some r := H
                              have A46 := Aside0.mk A460
                              clear A460
                              by_cases c47 : x4_2.size + 2 + t402.size ≤ 9223372036854775807
                              · rw [if_pos c47] at H
                                have c47b0 := eq_true c47
                                have c47b1 : decide (x4_2.size + 2 + t402.size ≤ 9223372036854775807) = true := decide_eq_true c47
                                try have c47b2 : (9223372036854775807 < x4_2.size + 2 + t402.size) = False := eq_false (Nat.not_lt.2 c47)
                                have H' := Aside0.mk H
                                clear H
                                have p397 : 0 ≤ (x43_2 : Int) := of_decide_eq_true (by first | (with_reducible assumption) | assumption)
                                have q397 : x43_2 < (l0_1.length : Int) := of_decide_eq_true (by first | (with_reducible assumption) | assumption)
                                obtain ⟨ad397, e397, hx397_0, hx397_1⟩ := at_T51 HR0_1.out x43_2 p397 q397
                                cases e397
                                replace hx397_0 := (HB.out.cell (World.block_lt_of_cell? w _ hx397_0)).trans hx397_0
                                replace hx397_1 := (HB.out.cell (World.block_lt_of_cell? w _ hx397_1)).trans hx397_1
                                replace p397 := eq_true p397
                                replace q397 := eq_true q397
                                go_wp2_with (first | ((with_reducible refine gate_dst (N := 6) rfl ?_); (try (refine gate_guard (by rfl) ?_; dsimp only)); refine box_event ?hg (N := 6) ?hd (cs := #[.bool false, .string (⟨#[]⟩ : ByteArray)]) (t := 51) ?hr ?_; (case hd => rfl); (case hg => rfl); (case hr => first | (go_simp; done) | (go_simp; rfl)); intro gb398 hg w48 hbox hb; have n0_ := Aside0.mk (blk_below (g := gb395) (o := .cells #[.bool a0_0, .slice (some ad397) l0_1.length c0_1] 40 (0, 0)) (by (with_reducible repeat (first | refine blk_drewN ?_ _ | refine blk_drew ?_ | refine blk_alloc ?_ _)); exact BK395.out) hb); have n1_ := Aside0.mk (below_step (by repeat (first | (with_reducible first | exact HB.out | apply below_alloc | apply pw_below_drewN | apply below_drew1 | refine below_set ?_ GE395.out) | exact HB.out)) hb); have n2_ := Aside0.mk (hbox); have n3_ := Aside0.mk ((by rw [hg]; exact (below_size (by repeat (first | (with_reducible first | exact HB.out | apply below_alloc | apply pw_below_drewN | apply below_drew1 | refine below_set ?_ GE395.out) | exact HB.out))) : w.heap.size ≤ gb398)); have n4_ := Aside0.mk ((by rw [hg]; exact (below_size (by repeat (first | (with_reducible first | exact HB.out | apply below_alloc | apply pw_below_drewN | apply below_drew1 | refine below_set ?_ GE395.out) | exact HB.out))) : w.heap.size ≤ gb398)); have n5_ := Aside0.mk ((by rw [hg]; exact Nat.ne_of_lt (blk_lt (g := gb395) (o := .cells #[.bool a0_0, .slice (some ad397) l0_1.length c0_1] 40 (0, 0)) (by (with_reducible repeat (first | refine blk_drewN ?_ _ | refine blk_drew ?_ | refine blk_alloc ?_ _)); exact BK395.out)) : gb395 ≠ gb398)); have n6_ := Aside0.mk ((by rw [hg]; exact Nat.ne_of_gt (blk_lt (g := gb395) (o := .cells #[.bool a0_0, .slice (some ad397) l0_1.length c0_1] 40 (0, 0)) (by (with_reducible repeat (first | refine blk_drewN ?_ _ | refine blk_drew ?_ | refine blk_alloc ?_ _)); exact BK395.out)) : gb398 ≠ gb395)); clear BK395; clear HB; have BK395 := n0_; have HB := n1_; have BK398 := n2_; have GW398 := n3_; have GE398 := n4_; have NB395_398 := n5_; have NB398_395 := n6_; clear n0_ n1_ n2_ n3_ n4_ n5_ n6_; clear hb hbox hg; have hnb49 := NB398_395.out; have hnc49 := NB395_398.out; have hcz50_0 : w48.cell? ⟨gb398, 0, none⟩ = some (.bool false) := (blk_cell BK398.out 0).trans rfl; have hcz50_1 : w48.cell? ⟨gb398, 1, none⟩ = some (.string (⟨#[]⟩ : ByteArray)) := (blk_cell BK398.out 1).trans rfl; have hfz50_0 := blk_frozen BK398.out 0; have hfz50_1 := blk_frozen BK398.out 1) | ((with_reducible refine gate_callee (f := 26) rfl ?_); refine goesL_ (some 70) rfl rfl Try.func26 (by kernel_rfl) rfl #[.agg #[.bool ((rd_T51 l0_1 x43_2).f0), .string ((rd_T51 l0_1 x43_2).f1)]] rfl (by (try simp only [List.map_toArray, List.map_cons, List.map_nil]); first | done | rfl | (simp only [List.length_drop, List.length_take]; rfl)) ?_; (with_reducible refine (spenceref04_PrintTag.calls ((rd_T51 l0_1 x43_2).f0) ((rd_T51 l0_1 x43_2).f1) t402 _ A46.out).mono ?_); rintro e w51 ⟨rfl, hb⟩; refine ⟨_, rfl, ?_⟩; have n0_ := Aside0.mk (blk_below (g := gb395) (o := .cells #[.bool a0_0, .slice (some ad397) l0_1.length c0_1] 40 (0, 0)) (by (with_reducible repeat (first | refine blk_drewN ?_ _ | refine blk_drew ?_ | refine blk_alloc ?_ _)); refine blk_far ?_ NB395_398.out _; (with_reducible repeat (first | refine blk_drewN ?_ _ | refine blk_drew ?_ | refine blk_alloc ?_ _)); refine blk_far ?_ NB395_398.out _; (with_reducible repeat (first | refine blk_drewN ?_ _ | refine blk_drew ?_ | refine blk_alloc ?_ _)); exact BK395.out) hb); have n1_ := Aside0.mk (blk_below (g := gb398) (o := .cells #[.bool ((rd_T51 l0_1 x43_2).f0), .string ((rd_T51 l0_1 x43_2).f1)] 51 (0, 0)) (by (with_reducible repeat (first | refine blk_drewN ?_ _ | refine blk_drew ?_ | refine blk_alloc ?_ _)); refine blk_put (cs := #[.bool ((rd_T51 l0_1 x43_2).f0), .string (⟨#[]⟩ : ByteArray)]) ?_ 1 _ rfl; (with_reducible repeat (first | refine blk_drewN ?_ _ | refine blk_drew ?_ | refine blk_alloc ?_ _)); refine blk_put (cs := #[.bool false, .string (⟨#[]⟩ : ByteArray)]) ?_ 0 _ rfl; (with_reducible repeat (first | refine blk_drewN ?_ _ | refine blk_drew ?_ | refine blk_alloc ?_ _)); exact BK398.out) hb); have n2_ := Aside0.mk (below_step (by repeat (first | (with_reducible first | exact HB.out | apply below_alloc | apply pw_below_drewN | apply below_drew1 | refine below_set ?_ GE395.out | refine below_set ?_ GE398.out) | exact HB.out)) hb); clear BK395; clear BK398; clear HB; have BK395 := n0_; have BK398 := n1_; have HB := n2_; clear n0_ n1_ n2_; (try clear hb); (try clear hb2); (try clear hk); (try clear hi)))
                                go_roundg k2
                                case measure => have := HJ7.out; have := HK2.out; omega
                                case rel => exact ⟨(false), ((x4_2 ++ (⟨#[44, 32]⟩ : ByteArray)) ++ t402), (wrap64 (x43_2 + 1)), (by first | rfl | (simp; done) | (simp [*]; done)), (by first | rfl | (simp; done) | (simp [*]; done)), (by first | rfl | (simp; done) | (simp [*]; done)), H', ⟨by have := HJ7.out; have := HK2.out; omega⟩, ⟨by (with_reducible repeat (first | refine blk_drewN ?_ _ | refine blk_drew ?_ | refine blk_alloc ?_ _)); exact BK395.out⟩, ⟨by repeat (first | (with_reducible first | exact HB.out | apply below_alloc | apply pw_below_drewN | apply below_drew1 | refine below_set ?_ GE395.out | refine below_set ?_ GE398.out) | exact HB.out)⟩⟩
                              · rw [if_neg c47] at H
                                exact absurd H (by simp)
                            · rw [if_neg c45] at H
                              exact absurd H (by simp)
                          · rw [if_neg c44] at H
                            have c44b0 : decide (0 < x43_2) = false := decide_eq_false c44
                            clear c44
                            replace H := Option.bind_eq_some_iff.mp H
                            obtain ⟨t403, A520, H⟩ := H
                            replace H : (if x4_2.size + t403.size ≤ 9223372036854775807 then (spencelaw46_CondBack.l0 k2 false (x4_2 ++ t403) l0_1 (l0_1.length : Int) (wrap64 (x43_2 + 1)) a0_0 l0_1) else (none)) = some r := H
                            have A52 := Aside0.mk A520
                            clear A520
                            by_cases c53 : x4_2.size + t403.size ≤ 9223372036854775807
                            · rw [if_pos c53] at H
                              have c53b0 := eq_true c53
                              have c53b1 : decide (x4_2.size + t403.size ≤ 9223372036854775807) = true := decide_eq_true c53
                              try have c53b2 : (9223372036854775807 < x4_2.size + t403.size) = False := eq_false (Nat.not_lt.2 c53)
                              have H' := Aside0.mk H
                              clear H
                              have p397 : 0 ≤ (x43_2 : Int) := of_decide_eq_true (by first | (with_reducible assumption) | assumption)
                              have q397 : x43_2 < (l0_1.length : Int) := of_decide_eq_true (by first | (with_reducible assumption) | assumption)
                              obtain ⟨ad397, e397, hx397_0, hx397_1⟩ := at_T51 HR0_1.out x43_2 p397 q397
                              cases e397
                              replace hx397_0 := (HB.out.cell (World.block_lt_of_cell? w _ hx397_0)).trans hx397_0
                              replace hx397_1 := (HB.out.cell (World.block_lt_of_cell? w _ hx397_1)).trans hx397_1
                              replace p397 := eq_true p397
                              replace q397 := eq_true q397
                              go_wp2_with (first | ((with_reducible refine gate_dst (N := 6) rfl ?_); (try (refine gate_guard (by rfl) ?_; dsimp only)); refine box_event ?hg (N := 6) ?hd (cs := #[.bool false, .string (⟨#[]⟩ : ByteArray)]) (t := 51) ?hr ?_; (case hd => rfl); (case hg => rfl); (case hr => first | (go_simp; done) | (go_simp; rfl)); intro gb398 hg w54 hbox hb; have n0_ := Aside0.mk (blk_below (g := gb395) (o := .cells #[.bool a0_0, .slice (some ad397) l0_1.length c0_1] 40 (0, 0)) (by (with_reducible repeat (first | refine blk_drewN ?_ _ | refine blk_drew ?_ | refine blk_alloc ?_ _)); exact BK395.out) hb); have n1_ := Aside0.mk (below_step (by repeat (first | (with_reducible first | exact HB.out | apply below_alloc | apply pw_below_drewN | apply below_drew1 | refine below_set ?_ GE395.out) | exact HB.out)) hb); have n2_ := Aside0.mk (hbox); have n3_ := Aside0.mk ((by rw [hg]; exact (below_size (by repeat (first | (with_reducible first | exact HB.out | apply below_alloc | apply pw_below_drewN | apply below_drew1 | refine below_set ?_ GE395.out) | exact HB.out))) : w.heap.size ≤ gb398)); have n4_ := Aside0.mk ((by rw [hg]; exact (below_size (by repeat (first | (with_reducible first | exact HB.out | apply below_alloc | apply pw_below_drewN | apply below_drew1 | refine below_set ?_ GE395.out) | exact HB.out))) : w.heap.size ≤ gb398)); have n5_ := Aside0.mk ((by rw [hg]; exact Nat.ne_of_lt (blk_lt (g := gb395) (o := .cells #[.bool a0_0, .slice (some ad397) l0_1.length c0_1] 40 (0, 0)) (by (with_reducible repeat (first | refine blk_drewN ?_ _ | refine blk_drew ?_ | refine blk_alloc ?_ _)); exact BK395.out)) : gb395 ≠ gb398)); have n6_ := Aside0.mk ((by rw [hg]; exact Nat.ne_of_gt (blk_lt (g := gb395) (o := .cells #[.bool a0_0, .slice (some ad397) l0_1.length c0_1] 40 (0, 0)) (by (with_reducible repeat (first | refine blk_drewN ?_ _ | refine blk_drew ?_ | refine blk_alloc ?_ _)); exact BK395.out)) : gb398 ≠ gb395)); clear BK395; clear HB; have BK395 := n0_; have HB := n1_; have BK398 := n2_; have GW398 := n3_; have GE398 := n4_; have NB395_398 := n5_; have NB398_395 := n6_; clear n0_ n1_ n2_ n3_ n4_ n5_ n6_; clear hb hbox hg; have hnb55 := NB398_395.out; have hnc55 := NB395_398.out; have hcz56_0 : w54.cell? ⟨gb398, 0, none⟩ = some (.bool false) := (blk_cell BK398.out 0).trans rfl; have hcz56_1 : w54.cell? ⟨gb398, 1, none⟩ = some (.string (⟨#[]⟩ : ByteArray)) := (blk_cell BK398.out 1).trans rfl; have hfz56_0 := blk_frozen BK398.out 0; have hfz56_1 := blk_frozen BK398.out 1) | ((with_reducible refine gate_callee (f := 26) rfl ?_); refine goesL_ (some 70) rfl rfl Try.func26 (by kernel_rfl) rfl #[.agg #[.bool ((rd_T51 l0_1 x43_2).f0), .string ((rd_T51 l0_1 x43_2).f1)]] rfl (by (try simp only [List.map_toArray, List.map_cons, List.map_nil]); first | done | rfl | (simp only [List.length_drop, List.length_take]; rfl)) ?_; (with_reducible refine (spenceref04_PrintTag.calls ((rd_T51 l0_1 x43_2).f0) ((rd_T51 l0_1 x43_2).f1) t403 _ A52.out).mono ?_); rintro e w57 ⟨rfl, hb⟩; refine ⟨_, rfl, ?_⟩; have n0_ := Aside0.mk (blk_below (g := gb395) (o := .cells #[.bool a0_0, .slice (some ad397) l0_1.length c0_1] 40 (0, 0)) (by (with_reducible repeat (first | refine blk_drewN ?_ _ | refine blk_drew ?_ | refine blk_alloc ?_ _)); refine blk_far ?_ NB395_398.out _; (with_reducible repeat (first | refine blk_drewN ?_ _ | refine blk_drew ?_ | refine blk_alloc ?_ _)); refine blk_far ?_ NB395_398.out _; (with_reducible repeat (first | refine blk_drewN ?_ _ | refine blk_drew ?_ | refine blk_alloc ?_ _)); exact BK395.out) hb); have n1_ := Aside0.mk (blk_below (g := gb398) (o := .cells #[.bool ((rd_T51 l0_1 x43_2).f0), .string ((rd_T51 l0_1 x43_2).f1)] 51 (0, 0)) (by (with_reducible repeat (first | refine blk_drewN ?_ _ | refine blk_drew ?_ | refine blk_alloc ?_ _)); refine blk_put (cs := #[.bool ((rd_T51 l0_1 x43_2).f0), .string (⟨#[]⟩ : ByteArray)]) ?_ 1 _ rfl; (with_reducible repeat (first | refine blk_drewN ?_ _ | refine blk_drew ?_ | refine blk_alloc ?_ _)); refine blk_put (cs := #[.bool false, .string (⟨#[]⟩ : ByteArray)]) ?_ 0 _ rfl; (with_reducible repeat (first | refine blk_drewN ?_ _ | refine blk_drew ?_ | refine blk_alloc ?_ _)); exact BK398.out) hb); have n2_ := Aside0.mk (below_step (by repeat (first | (with_reducible first | exact HB.out | apply below_alloc | apply pw_below_drewN | apply below_drew1 | refine below_set ?_ GE395.out | refine below_set ?_ GE398.out) | exact HB.out)) hb); clear BK395; clear BK398; clear HB; have BK395 := n0_; have BK398 := n1_; have HB := n2_; clear n0_ n1_ n2_; (try clear hb); (try clear hb2); (try clear hk); (try clear hi)))
                              go_roundg k2
                              case measure => have := HJ7.out; have := HK2.out; omega
                              case rel => exact ⟨(false), (x4_2 ++ t403), (wrap64 (x43_2 + 1)), (by first | rfl | (simp; done) | (simp [*]; done)), (by first | rfl | (simp; done) | (simp [*]; done)), (by first | rfl | (simp; done) | (simp [*]; done)), H', ⟨by have := HJ7.out; have := HK2.out; omega⟩, ⟨by (with_reducible repeat (first | refine blk_drewN ?_ _ | refine blk_drew ?_ | refine blk_alloc ?_ _)); exact BK395.out⟩, ⟨by repeat (first | (with_reducible first | exact HB.out | apply below_alloc | apply pw_below_drewN | apply below_drew1 | refine below_set ?_ GE395.out | refine below_set ?_ GE398.out) | exact HB.out)⟩⟩
                            · rw [if_neg c53] at H
                              exact absurd H (by simp)
                      · replace c27 := Bool.eq_false_iff.mpr c27
                        subst c27
                        have H1 : (if x43_2 > 0 then (if x4_2.size + 2 ≤ 9223372036854775807 then ((spenceref04_PrintTag.f ((rd_T51 l0_1 x43_2).f0) ((rd_T51 l0_1 x43_2).f1)).bind fun t404 => (if x4_2.size + 2 + t404.size ≤ 9223372036854775807 then (spencelaw46_CondBack.l0 k2 false ((x4_2 ++ (⟨#[44, 32]⟩ : ByteArray)) ++ t404) l0_1 (l0_1.length : Int) (wrap64 (x43_2 + 1)) a0_0 l0_1) else (none))) else (none)) else ((spenceref04_PrintTag.f ((rd_T51 l0_1 x43_2).f0) ((rd_T51 l0_1 x43_2).f1)).bind fun t405 => (if x4_2.size + t405.size ≤ 9223372036854775807 then (spencelaw46_CondBack.l0 k2 false (x4_2 ++ t405) l0_1 (l0_1.length : Int) (wrap64 (x43_2 + 1)) a0_0 l0_1) else (none)))) = some r := by rw [if_neg (show ¬ (false = true) by decide)] at H; exact H
                        clear H
                        have H := H1
                        clear H1
                        by_cases c58 : x43_2 > 0
                        · rw [if_pos c58] at H
                          have c58b0 : decide (0 < x43_2) = true := decide_eq_true c58
                          clear c58
                          by_cases c59 : x4_2.size + 2 ≤ 9223372036854775807
                          · rw [if_pos c59] at H
                            have c59b0 := eq_true c59
                            have c59b1 : decide (x4_2.size + 2 ≤ 9223372036854775807) = true := decide_eq_true c59
                            try have c59b2 : (9223372036854775807 < x4_2.size + 2) = False := eq_false (Nat.not_lt.2 c59)
                            replace H := Option.bind_eq_some_iff.mp H
                            obtain ⟨t404, A600, H⟩ := H
                            replace H : (if x4_2.size + 2 + t404.size ≤ 9223372036854775807 then (spencelaw46_CondBack.l0 k2 false ((x4_2 ++ (⟨#[44, 32]⟩ : ByteArray)) ++ t404) l0_1 (l0_1.length : Int) (wrap64 (x43_2 + 1)) a0_0 l0_1) else (none)) = some r := H
                            have A60 := Aside0.mk A600
                            clear A600
                            by_cases c61 : x4_2.size + 2 + t404.size ≤ 9223372036854775807
                            · rw [if_pos c61] at H
                              have c61b0 := eq_true c61
                              have c61b1 : decide (x4_2.size + 2 + t404.size ≤ 9223372036854775807) = true := decide_eq_true c61
                              try have c61b2 : (9223372036854775807 < x4_2.size + 2 + t404.size) = False := eq_false (Nat.not_lt.2 c61)
                              have H' := Aside0.mk H
                              clear H
                              have p397 : 0 ≤ (x43_2 : Int) := of_decide_eq_true (by first | (with_reducible assumption) | assumption)
                              have q397 : x43_2 < (l0_1.length : Int) := of_decide_eq_true (by first | (with_reducible assumption) | assumption)
                              obtain ⟨ad397, e397, hx397_0, hx397_1⟩ := at_T51 HR0_1.out x43_2 p397 q397
                              cases e397
                              replace hx397_0 := (HB.out.cell (World.block_lt_of_cell? w _ hx397_0)).trans hx397_0
                              replace hx397_1 := (HB.out.cell (World.block_lt_of_cell? w _ hx397_1)).trans hx397_1
                              replace p397 := eq_true p397
                              replace q397 := eq_true q397
                              go_wp2_with (first | ((with_reducible refine gate_dst (N := 6) rfl ?_); (try (refine gate_guard (by rfl) ?_; dsimp only)); refine box_event ?hg (N := 6) ?hd (cs := #[.bool false, .string (⟨#[]⟩ : ByteArray)]) (t := 51) ?hr ?_; (case hd => rfl); (case hg => rfl); (case hr => first | (go_simp; done) | (go_simp; rfl)); intro gb398 hg w62 hbox hb; have n0_ := Aside0.mk (blk_below (g := gb395) (o := .cells #[.bool a0_0, .slice (some ad397) l0_1.length c0_1] 40 (0, 0)) (by (with_reducible repeat (first | refine blk_drewN ?_ _ | refine blk_drew ?_ | refine blk_alloc ?_ _)); exact BK395.out) hb); have n1_ := Aside0.mk (below_step (by repeat (first | (with_reducible first | exact HB.out | apply below_alloc | apply pw_below_drewN | apply below_drew1 | refine below_set ?_ GE395.out) | exact HB.out)) hb); have n2_ := Aside0.mk (hbox); have n3_ := Aside0.mk ((by rw [hg]; exact (below_size (by repeat (first | (with_reducible first | exact HB.out | apply below_alloc | apply pw_below_drewN | apply below_drew1 | refine below_set ?_ GE395.out) | exact HB.out))) : w.heap.size ≤ gb398)); have n4_ := Aside0.mk ((by rw [hg]; exact (below_size (by repeat (first | (with_reducible first | exact HB.out | apply below_alloc | apply pw_below_drewN | apply below_drew1 | refine below_set ?_ GE395.out) | exact HB.out))) : w.heap.size ≤ gb398)); have n5_ := Aside0.mk ((by rw [hg]; exact Nat.ne_of_lt (blk_lt (g := gb395) (o := .cells #[.bool a0_0, .slice (some ad397) l0_1.length c0_1] 40 (0, 0)) (by (with_reducible repeat (first | refine blk_drewN ?_ _ | refine blk_drew ?_ | refine blk_alloc ?_ _)); exact BK395.out)) : gb395 ≠ gb398)); have n6_ := Aside0.mk ((by rw [hg]; exact Nat.ne_of_gt (blk_lt (g := gb395) (o := .cells #[.bool a0_0, .slice (some ad397) l0_1.length c0_1] 40 (0, 0)) (by (with_reducible repeat (first | refine blk_drewN ?_ _ | refine blk_drew ?_ | refine blk_alloc ?_ _)); exact BK395.out)) : gb398 ≠ gb395)); clear BK395; clear HB; have BK395 := n0_; have HB := n1_; have BK398 := n2_; have GW398 := n3_; have GE398 := n4_; have NB395_398 := n5_; have NB398_395 := n6_; clear n0_ n1_ n2_ n3_ n4_ n5_ n6_; clear hb hbox hg; have hnb63 := NB398_395.out; have hnc63 := NB395_398.out; have hcz64_0 : w62.cell? ⟨gb398, 0, none⟩ = some (.bool false) := (blk_cell BK398.out 0).trans rfl; have hcz64_1 : w62.cell? ⟨gb398, 1, none⟩ = some (.string (⟨#[]⟩ : ByteArray)) := (blk_cell BK398.out 1).trans rfl; have hfz64_0 := blk_frozen BK398.out 0; have hfz64_1 := blk_frozen BK398.out 1) | ((with_reducible refine gate_callee (f := 26) rfl ?_); refine goesL_ (some 70) rfl rfl Try.func26 (by kernel_rfl) rfl #[.agg #[.bool ((rd_T51 l0_1 x43_2).f0), .string ((rd_T51 l0_1 x43_2).f1)]] rfl (by (try simp only [List.map_toArray, List.map_cons, List.map_nil]); first | done | rfl | (simp only [List.length_drop, List.length_take]; rfl)) ?_; (with_reducible refine (spenceref04_PrintTag.calls ((rd_T51 l0_1 x43_2).f0) ((rd_T51 l0_1 x43_2).f1) t404 _ A60.out).mono ?_); rintro e w65 ⟨rfl, hb⟩; refine ⟨_, rfl, ?_⟩; have n0_ := Aside0.mk (blk_below (g := gb395) (o := .cells #[.bool a0_0, .slice (some ad397) l0_1.length c0_1] 40 (0, 0)) (by (with_reducible repeat (first | refine blk_drewN ?_ _ | refine blk_drew ?_ | refine blk_alloc ?_ _)); refine blk_far ?_ NB395_398.out _; (with_reducible repeat (first | refine blk_drewN ?_ _ | refine blk_drew ?_ | refine blk_alloc ?_ _)); refine blk_far ?_ NB395_398.out _; (with_reducible repeat (first | refine blk_drewN ?_ _ | refine blk_drew ?_ | refine blk_alloc ?_ _)); exact BK395.out) hb); have n1_ := Aside0.mk (blk_below (g := gb398) (o := .cells #[.bool ((rd_T51 l0_1 x43_2).f0), .string ((rd_T51 l0_1 x43_2).f1)] 51 (0, 0)) (by (with_reducible repeat (first | refine blk_drewN ?_ _ | refine blk_drew ?_ | refine blk_alloc ?_ _)); refine blk_put (cs := #[.bool ((rd_T51 l0_1 x43_2).f0), .string (⟨#[]⟩ : ByteArray)]) ?_ 1 _ rfl; (with_reducible repeat (first | refine blk_drewN ?_ _ | refine blk_drew ?_ | refine blk_alloc ?_ _)); refine blk_put (cs := #[.bool false, .string (⟨#[]⟩ : ByteArray)]) ?_ 0 _ rfl; (with_reducible repeat (first | refine blk_drewN ?_ _ | refine blk_drew ?_ | refine blk_alloc ?_ _)); exact BK398.out) hb); have n2_ := Aside0.mk (below_step (by repeat (first | (with_reducible first | exact HB.out | apply below_alloc | apply pw_below_drewN | apply below_drew1 | refine below_set ?_ GE395.out | refine below_set ?_ GE398.out) | exact HB.out)) hb); clear BK395; clear BK398; clear HB; have BK395 := n0_; have BK398 := n1_; have HB := n2_; clear n0_ n1_ n2_; (try clear hb); (try clear hb2); (try clear hk); (try clear hi)))
                              go_roundg k2
                              case measure => have := HJ7.out; have := HK2.out; omega
                              case rel => exact ⟨(false), ((x4_2 ++ (⟨#[44, 32]⟩ : ByteArray)) ++ t404), (wrap64 (x43_2 + 1)), (by first | rfl | (simp; done) | (simp [*]; done)), (by first | rfl | (simp; done) | (simp [*]; done)), (by first | rfl | (simp; done) | (simp [*]; done)), H', ⟨by have := HJ7.out; have := HK2.out; omega⟩, ⟨by (with_reducible repeat (first | refine blk_drewN ?_ _ | refine blk_drew ?_ | refine blk_alloc ?_ _)); exact BK395.out⟩, ⟨by repeat (first | (with_reducible first | exact HB.out | apply below_alloc | apply pw_below_drewN | apply below_drew1 | refine below_set ?_ GE395.out | refine below_set ?_ GE398.out) | exact HB.out)⟩⟩
                            · rw [if_neg c61] at H
                              exact absurd H (by simp)
                          · rw [if_neg c59] at H
                            exact absurd H (by simp)
                        · rw [if_neg c58] at H
                          have c58b0 : decide (0 < x43_2) = false := decide_eq_false c58
                          clear c58
                          replace H := Option.bind_eq_some_iff.mp H
                          obtain ⟨t405, A660, H⟩ := H
                          replace H : (if x4_2.size + t405.size ≤ 9223372036854775807 then (spencelaw46_CondBack.l0 k2 false (x4_2 ++ t405) l0_1 (l0_1.length : Int) (wrap64 (x43_2 + 1)) a0_0 l0_1) else (none)) = some r := H
                          have A66 := Aside0.mk A660
                          clear A660
                          by_cases c67 : x4_2.size + t405.size ≤ 9223372036854775807
                          · rw [if_pos c67] at H
                            have c67b0 := eq_true c67
                            have c67b1 : decide (x4_2.size + t405.size ≤ 9223372036854775807) = true := decide_eq_true c67
                            try have c67b2 : (9223372036854775807 < x4_2.size + t405.size) = False := eq_false (Nat.not_lt.2 c67)
                            have H' := Aside0.mk H
                            clear H
                            have p397 : 0 ≤ (x43_2 : Int) := of_decide_eq_true (by first | (with_reducible assumption) | assumption)
                            have q397 : x43_2 < (l0_1.length : Int) := of_decide_eq_true (by first | (with_reducible assumption) | assumption)
                            obtain ⟨ad397, e397, hx397_0, hx397_1⟩ := at_T51 HR0_1.out x43_2 p397 q397
                            cases e397
                            replace hx397_0 := (HB.out.cell (World.block_lt_of_cell? w _ hx397_0)).trans hx397_0
                            replace hx397_1 := (HB.out.cell (World.block_lt_of_cell? w _ hx397_1)).trans hx397_1
                            replace p397 := eq_true p397
                            replace q397 := eq_true q397
                            go_wp2_with (first | ((with_reducible refine gate_dst (N := 6) rfl ?_); (try (refine gate_guard (by rfl) ?_; dsimp only)); refine box_event ?hg (N := 6) ?hd (cs := #[.bool false, .string (⟨#[]⟩ : ByteArray)]) (t := 51) ?hr ?_; (case hd => rfl); (case hg => rfl); (case hr => first | (go_simp; done) | (go_simp; rfl)); intro gb398 hg w68 hbox hb; have n0_ := Aside0.mk (blk_below (g := gb395) (o := .cells #[.bool a0_0, .slice (some ad397) l0_1.length c0_1] 40 (0, 0)) (by (with_reducible repeat (first | refine blk_drewN ?_ _ | refine blk_drew ?_ | refine blk_alloc ?_ _)); exact BK395.out) hb); have n1_ := Aside0.mk (below_step (by repeat (first | (with_reducible first | exact HB.out | apply below_alloc | apply pw_below_drewN | apply below_drew1 | refine below_set ?_ GE395.out) | exact HB.out)) hb); have n2_ := Aside0.mk (hbox); have n3_ := Aside0.mk ((by rw [hg]; exact (below_size (by repeat (first | (with_reducible first | exact HB.out | apply below_alloc | apply pw_below_drewN | apply below_drew1 | refine below_set ?_ GE395.out) | exact HB.out))) : w.heap.size ≤ gb398)); have n4_ := Aside0.mk ((by rw [hg]; exact (below_size (by repeat (first | (with_reducible first | exact HB.out | apply below_alloc | apply pw_below_drewN | apply below_drew1 | refine below_set ?_ GE395.out) | exact HB.out))) : w.heap.size ≤ gb398)); have n5_ := Aside0.mk ((by rw [hg]; exact Nat.ne_of_lt (blk_lt (g := gb395) (o := .cells #[.bool a0_0, .slice (some ad397) l0_1.length c0_1] 40 (0, 0)) (by (with_reducible repeat (first | refine blk_drewN ?_ _ | refine blk_drew ?_ | refine blk_alloc ?_ _)); exact BK395.out)) : gb395 ≠ gb398)); have n6_ := Aside0.mk ((by rw [hg]; exact Nat.ne_of_gt (blk_lt (g := gb395) (o := .cells #[.bool a0_0, .slice (some ad397) l0_1.length c0_1] 40 (0, 0)) (by (with_reducible repeat (first | refine blk_drewN ?_ _ | refine blk_drew ?_ | refine blk_alloc ?_ _)); exact BK395.out)) : gb398 ≠ gb395)); clear BK395; clear HB; have BK395 := n0_; have HB := n1_; have BK398 := n2_; have GW398 := n3_; have GE398 := n4_; have NB395_398 := n5_; have NB398_395 := n6_; clear n0_ n1_ n2_ n3_ n4_ n5_ n6_; clear hb hbox hg; have hnb69 := NB398_395.out; have hnc69 := NB395_398.out; have hcz70_0 : w68.cell? ⟨gb398, 0, none⟩ = some (.bool false) := (blk_cell BK398.out 0).trans rfl; have hcz70_1 : w68.cell? ⟨gb398, 1, none⟩ = some (.string (⟨#[]⟩ : ByteArray)) := (blk_cell BK398.out 1).trans rfl; have hfz70_0 := blk_frozen BK398.out 0; have hfz70_1 := blk_frozen BK398.out 1) | ((with_reducible refine gate_callee (f := 26) rfl ?_); refine goesL_ (some 70) rfl rfl Try.func26 (by kernel_rfl) rfl #[.agg #[.bool ((rd_T51 l0_1 x43_2).f0), .string ((rd_T51 l0_1 x43_2).f1)]] rfl (by (try simp only [List.map_toArray, List.map_cons, List.map_nil]); first | done | rfl | (simp only [List.length_drop, List.length_take]; rfl)) ?_; (with_reducible refine (spenceref04_PrintTag.calls ((rd_T51 l0_1 x43_2).f0) ((rd_T51 l0_1 x43_2).f1) t405 _ A66.out).mono ?_); rintro e w71 ⟨rfl, hb⟩; refine ⟨_, rfl, ?_⟩; have n0_ := Aside0.mk (blk_below (g := gb395) (o := .cells #[.bool a0_0, .slice (some ad397) l0_1.length c0_1] 40 (0, 0)) (by (with_reducible repeat (first | refine blk_drewN ?_ _ | refine blk_drew ?_ | refine blk_alloc ?_ _)); refine blk_far ?_ NB395_398.out _; (with_reducible repeat (first | refine blk_drewN ?_ _ | refine blk_drew ?_ | refine blk_alloc ?_ _)); refine blk_far ?_ NB395_398.out _; (with_reducible repeat (first | refine blk_drewN ?_ _ | refine blk_drew ?_ | refine blk_alloc ?_ _)); exact BK395.out) hb); have n1_ := Aside0.mk (blk_below (g := gb398) (o := .cells #[.bool ((rd_T51 l0_1 x43_2).f0), .string ((rd_T51 l0_1 x43_2).f1)] 51 (0, 0)) (by (with_reducible repeat (first | refine blk_drewN ?_ _ | refine blk_drew ?_ | refine blk_alloc ?_ _)); refine blk_put (cs := #[.bool ((rd_T51 l0_1 x43_2).f0), .string (⟨#[]⟩ : ByteArray)]) ?_ 1 _ rfl; (with_reducible repeat (first | refine blk_drewN ?_ _ | refine blk_drew ?_ | refine blk_alloc ?_ _)); refine blk_put (cs := #[.bool false, .string (⟨#[]⟩ : ByteArray)]) ?_ 0 _ rfl; (with_reducible repeat (first | refine blk_drewN ?_ _ | refine blk_drew ?_ | refine blk_alloc ?_ _)); exact BK398.out) hb); have n2_ := Aside0.mk (below_step (by repeat (first | (with_reducible first | exact HB.out | apply below_alloc | apply pw_below_drewN | apply below_drew1 | refine below_set ?_ GE395.out | refine below_set ?_ GE398.out) | exact HB.out)) hb); clear BK395; clear BK398; clear HB; have BK395 := n0_; have BK398 := n1_; have HB := n2_; clear n0_ n1_ n2_; (try clear hb); (try clear hb2); (try clear hk); (try clear hi)))
                            go_roundg k2
                            case measure => have := HJ7.out; have := HK2.out; omega
                            case rel => exact ⟨(false), (x4_2 ++ t405), (wrap64 (x43_2 + 1)), (by first | rfl | (simp; done) | (simp [*]; done)), (by first | rfl | (simp; done) | (simp [*]; done)), (by first | rfl | (simp; done) | (simp [*]; done)), H', ⟨by have := HJ7.out; have := HK2.out; omega⟩, ⟨by (with_reducible repeat (first | refine blk_drewN ?_ _ | refine blk_drew ?_ | refine blk_alloc ?_ _)); exact BK395.out⟩, ⟨by repeat (first | (with_reducible first | exact HB.out | apply below_alloc | apply pw_below_drewN | apply below_drew1 | refine below_set ?_ GE395.out | refine below_set ?_ GE398.out) | exact HB.out)⟩⟩
                          · rw [if_neg c67] at H
                            exact absurd H (by simp)
                  · rw [if_neg c22] at H
                    exact absurd H (by simp)
                · rw [if_neg c21] at H
                  exact absurd H (by simp)
              · rw [if_neg c20] at H
                have c20b0 : decide (x43_2 < (l0_1.length : Int)) = false := decide_eq_false c20
                clear c20
                have HC72 := Aside0.mk H
                clear H
                have hcz73_0 : wr.cell? ⟨gb395, 0, none⟩ = some (.bool a0_0) := (blk_cell BK395.out 0).trans rfl
                have hcz73_1 : wr.cell? ⟨gb395, 1, none⟩ = some (.slice A0_1 l0_1.length c0_1) := (blk_cell BK395.out 1).trans rfl
                have hfz73_0 := blk_frozen BK395.out 0
                have hfz73_1 := blk_frozen BK395.out 1
                go_upto_if 74 with (fail)
                go_cut [4] (fun v4 wc => ∃ (kq : Nat) (x4_71 : ByteArray), v4 = .string x4_71 ∧ Aside0 (spencelaw46_CondBack.j2 kq x3_2 x4_71 a0_0 l0_1 = some r) ∧ Aside0 (kq ≤ k2) ∧ Aside0 (wc.heap[gb395]? = some (.cells #[.bool a0_0, (.slice A0_1 l0_1.length c0_1)] 40 (0, 0))) ∧ Aside0 (Below w.heap.size w wc))
                case first =>
                  have H := HC72.out
                  clear HC72
                  by_cases c74 : a0_0 = true
                  · subst c74
                    have H1 : (spencelaw46_CondBack.j2 k2 x3_2 (⟨#[42]⟩ : ByteArray) true l0_1) = some r := by rw [if_pos rfl] at H; exact H
                    clear H
                    have H := H1
                    clear H1
                    have H' := Aside0.mk H
                    clear H
                    go_wp2
                    go_meet
                    case rel => exact ⟨_, ((⟨#[42]⟩ : ByteArray)), (by first | rfl | (simp; done) | (simp [*]; done)), H', ⟨by have := HJ7.out; have := HK2.out; first | omega | exact Nat.le_refl _⟩, ⟨by (with_reducible repeat (first | refine blk_drewN ?_ _ | refine blk_drew ?_ | refine blk_alloc ?_ _)); exact BK395.out⟩, ⟨by repeat (first | (with_reducible first | exact HB.out | apply below_alloc | apply pw_below_drewN | apply below_drew1 | refine below_set ?_ GE395.out) | exact HB.out)⟩⟩
                  · replace c74 := Bool.eq_false_iff.mpr c74
                    subst c74
                    have H1 : (spencelaw46_CondBack.j2 k2 x3_2 x4_2 false l0_1) = some r := by rw [if_neg (show ¬ (false = true) by decide)] at H; exact H
                    clear H
                    have H := H1
                    clear H1
                    have H' := Aside0.mk H
                    clear H
                    go_wp2
                    go_meet
                    case rel => exact ⟨_, (x4_2), (by first | rfl | (simp; done) | (simp [*]; done)), H', ⟨by have := HJ7.out; have := HK2.out; first | omega | exact Nat.le_refl _⟩, ⟨by (with_reducible repeat (first | refine blk_drewN ?_ _ | refine blk_drew ?_ | refine blk_alloc ?_ _)); exact BK395.out⟩, ⟨by repeat (first | (with_reducible first | exact HB.out | apply below_alloc | apply pw_below_drewN | apply below_drew1 | refine below_set ?_ GE395.out) | exact HB.out)⟩⟩
                case rest =>
                  clear HC72
                  try clear c1
                  try clear c2
                  try clear p2
                  try clear c3
                  try clear p3
                  try clear q3
                  try clear hx3
                  try clear c4
                  try clear c4b0
                  try clear c4b1
                  try clear c5
                  try clear c6
                  try clear p6
                  try clear c7
                  try clear c8
                  try clear c12
                  try clear c13
                  try clear c13b0
                  try clear c13b1
                  try clear c13b2
                  try clear c16
                  try clear c16b0
                  try clear c16b1
                  try clear c17
                  try clear c20
                  try clear c20b0
                  try clear c21
                  try clear c21b0
                  try clear c22
                  try clear c22b0
                  try clear c23
                  try clear c23b0
                  try clear c23b1
                  try clear c25
                  try clear c26
                  try clear c27
                  try clear c28
                  try clear c28b0
                  try clear c28b1
                  try clear c30
                  try clear c30b0
                  try clear c31
                  try clear c31b0
                  try clear c31b1
                  try clear c31b2
                  try clear c33
                  try clear c33b0
                  try clear c33b1
                  try clear c33b2
                  try clear c35
                  try clear c39
                  try clear c39b0
                  try clear c39b1
                  try clear c39b2
                  try clear p39
                  try clear q39
                  try clear hx39
                  try clear c41
                  try clear c44
                  try clear c44b0
                  try clear c45
                  try clear c45b0
                  try clear c45b1
                  try clear c45b2
                  try clear c47
                  try clear c47b0
                  try clear c47b1
                  try clear c47b2
                  try clear c49
                  try clear c53
                  try clear c53b0
                  try clear c53b1
                  try clear c53b2
                  try clear c55
                  try clear c58
                  try clear c58b0
                  try clear c59
                  try clear c59b0
                  try clear c59b1
                  try clear c59b2
                  try clear c61
                  try clear c61b0
                  try clear c61b1
                  try clear c61b2
                  try clear c63
                  try clear p64
                  try clear c67
                  try clear c67b0
                  try clear c67b1
                  try clear c67b2
                  try clear c69
                  try clear c74
                  try clear hcz11_0
                  try clear hcz11_1
                  try clear hcz14_0
                  try clear hcz14_1
                  try clear hcz15_0
                  try clear hcz15_1
                  try clear hcz17_0
                  try clear hcz17_1
                  try clear hcz18_0
                  try clear hcz18_1
                  try clear hcz19_0
                  try clear hcz19_1
                  try clear hcz26_0
                  try clear hcz26_1
                  try clear hcz36_0
                  try clear hcz36_1
                  try clear hcz42_0
                  try clear hcz42_1
                  try clear hcz50_0
                  try clear hcz50_1
                  try clear hcz56_0
                  try clear hcz56_1
                  try clear hcz64_0
                  try clear hcz64_1
                  try clear hcz70_0
                  try clear hcz70_1
                  try clear hcz73_0
                  try clear hcz73_1
                  try clear hcz7_0
                  try clear hcz7_1
                  try clear hfz11_0
                  try clear hfz11_1
                  try clear hfz14_0
                  try clear hfz14_1
                  try clear hfz15_0
                  try clear hfz15_1
                  try clear hfz17_0
                  try clear hfz17_1
                  try clear hfz18_0
                  try clear hfz18_1
                  try clear hfz19_0
                  try clear hfz19_1
                  try clear hfz26_0
                  try clear hfz26_1
                  try clear hfz36_0
                  try clear hfz36_1
                  try clear hfz42_0
                  try clear hfz42_1
                  try clear hfz50_0
                  try clear hfz50_1
                  try clear hfz56_0
                  try clear hfz56_1
                  try clear hfz64_0
                  try clear hfz64_1
                  try clear hfz70_0
                  try clear hfz70_1
                  try clear hfz73_0
                  try clear hfz73_1
                  try clear hfz7_0
                  try clear hfz7_1
                  try clear hx397_0
                  try clear hx397_1
                  try clear p2
                  try clear p397
                  try clear q397
                  obtain ⟨kq, x4_71, rfl, HA, HJ71, BK395, HB⟩ := hcut
                  cases kq with
                  | zero => exact absurd HA.out (by simp [spencelaw46_CondBack.j2])
                  | succ kj71 =>
                    have H := HA.out
                    clear HA
                    simp only [spencelaw46_CondBack.j2] at H
                    have HC75 := Aside0.mk H
                    clear H
                    go_upto_region 19 with (fail)
                    go_cut [84] (fun v84 wc => ∃ (kq : Nat) (x84_74 : Bool), v84 = .bool x84_74 ∧ Aside0 (spencelaw46_CondBack.j3 kq x3_2 x4_71 x84_74 a0_0 l0_1 = some r) ∧ Aside0 (kq ≤ kj71) ∧ Aside0 (wc.heap[gb395]? = some (.cells #[.bool a0_0, (.slice A0_1 l0_1.length c0_1)] 40 (0, 0))) ∧ Aside0 (Below w.heap.size w wc))
                    case first =>
                      have H := HC75.out
                      clear HC75
                      replace H := Option.bind_eq_some_iff.mp H
                      obtain ⟨t406, A760, H⟩ := H
                      replace H : (if (t406 != x3_2) = true then (spencelaw46_CondBack.j3 kj71 x3_2 x4_71 true a0_0 l0_1) else ((cond_Print.f kj71 a0_0 l0_1).bind fun t407 => (spencelaw46_CondBack.j3 kj71 x3_2 x4_71 (t407.toList != x4_71.toList) a0_0 l0_1))) = some r := H
                      have A76 := Aside0.mk A760
                      clear A760
                      by_cases c77 : (t406 != x3_2) = true
                      · rw [if_pos c77] at H
                        have c77b0 : (t406 != x3_2) = true := c77
                        (try (have c77b1 : decide (t406 = x3_2) = false := by simpa using c77))
                        (try (have c77b2 : (t406 == x3_2) = false := by simpa using c77))
                        (try (have c77b3 : ¬ (t406 = x3_2) := by simpa using c77))
                        clear c77
                        (first | rw [c77b0] | (simp only [i64_w, i32_w]; rw [c77b0]) | skip)
                        have H' := Aside0.mk H
                        clear H
                        have hcz78_0 : wc.cell? ⟨gb395, 0, none⟩ = some (.bool a0_0) := (blk_cell BK395.out 0).trans rfl
                        have hcz78_1 : wc.cell? ⟨gb395, 1, none⟩ = some (.slice A0_1 l0_1.length c0_1) := (blk_cell BK395.out 1).trans rfl
                        have hfz78_0 := blk_frozen BK395.out 0
                        have hfz78_1 := blk_frozen BK395.out 1
                        go_wp2_with (first | ((with_reducible refine gate_callee (f := 27) rfl ?_); refine goesL_ (some 76) rfl rfl Try.func27 (by kernel_rfl) rfl #[.agg #[.bool a0_0, .slice A0_1 l0_1.length c0_1]] rfl (by (try simp only [List.map_toArray, List.map_cons, List.map_nil]); first | done | rfl | (simp only [List.length_drop, List.length_take]; rfl)) ?_; (with_reducible refine (cond_Right.calls kj71 a0_0 _ _ l0_1 t406 _ ?side1 ?side2 A76.out).mono ?_); (case side1 => repeat (first | exact (Kd.C_below HR0_1.out HB.out) | (with_reducible refine Kd.C_alloc ?_ _) | (with_reducible refine Kd.C_drewN ?_ _) | (with_reducible refine Kd.C_drew ?_))); (case side2 => exact HC0_1.out); rintro e w79 ⟨rfl, hb⟩; refine ⟨_, rfl, ?_⟩; have n0_ := Aside0.mk (blk_below (g := gb395) (o := .cells #[.bool a0_0, .slice A0_1 l0_1.length c0_1] 40 (0, 0)) (by (with_reducible repeat (first | refine blk_drewN ?_ _ | refine blk_drew ?_ | refine blk_alloc ?_ _)); exact BK395.out) hb); have n1_ := Aside0.mk (below_step (by repeat (first | (with_reducible first | exact HB.out | apply below_alloc | apply pw_below_drewN | apply below_drew1 | refine below_set ?_ GE395.out) | exact HB.out)) hb); clear BK395; clear HB; have BK395 := n0_; have HB := n1_; clear n0_ n1_; (try clear hb); (try clear hb2); (try clear hk); (try clear hi)))
                        go_meet
                        case rel => exact ⟨_, (true), (by first | rfl | (simp; done) | (simp [*]; done)), H', ⟨by have := HJ7.out; have := HK2.out; have := HJ71.out; first | omega | exact Nat.le_refl _⟩, ⟨by (with_reducible repeat (first | refine blk_drewN ?_ _ | refine blk_drew ?_ | refine blk_alloc ?_ _)); exact BK395.out⟩, ⟨by repeat (first | (with_reducible first | exact HB.out | apply below_alloc | apply pw_below_drewN | apply below_drew1 | refine below_set ?_ GE395.out) | exact HB.out)⟩⟩
                      · rw [if_neg c77] at H
                        have c77b0 : (t406 != x3_2) = false := by simpa using c77
                        (try (have c77b1 : decide (t406 = x3_2) = true := by simpa using c77))
                        (try (have c77b2 : (t406 == x3_2) = true := by simpa using c77))
                        clear c77
                        (first | rw [c77b0] | (simp only [i64_w, i32_w]; rw [c77b0]) | skip)
                        replace H := Option.bind_eq_some_iff.mp H
                        obtain ⟨t407, A800, H⟩ := H
                        replace H : (spencelaw46_CondBack.j3 kj71 x3_2 x4_71 (t407.toList != x4_71.toList) a0_0 l0_1) = some r := H
                        have A80 := Aside0.mk A800
                        clear A800
                        have H' := Aside0.mk H
                        clear H
                        have hcz81_0 : wc.cell? ⟨gb395, 0, none⟩ = some (.bool a0_0) := (blk_cell BK395.out 0).trans rfl
                        have hcz81_1 : wc.cell? ⟨gb395, 1, none⟩ = some (.slice A0_1 l0_1.length c0_1) := (blk_cell BK395.out 1).trans rfl
                        have hfz81_0 := blk_frozen BK395.out 0
                        have hfz81_1 := blk_frozen BK395.out 1
                        go_wp2_with (first | ((with_reducible refine gate_callee (f := 27) rfl ?_); refine goesL_ (some 76) rfl rfl Try.func27 (by kernel_rfl) rfl #[.agg #[.bool a0_0, .slice A0_1 l0_1.length c0_1]] rfl (by (try simp only [List.map_toArray, List.map_cons, List.map_nil]); first | done | rfl | (simp only [List.length_drop, List.length_take]; rfl)) ?_; (with_reducible refine (cond_Right.calls kj71 a0_0 _ _ l0_1 t406 _ ?side1 ?side2 A76.out).mono ?_); (case side1 => repeat (first | exact (Kd.C_below HR0_1.out HB.out) | (with_reducible refine Kd.C_alloc ?_ _) | (with_reducible refine Kd.C_drewN ?_ _) | (with_reducible refine Kd.C_drew ?_))); (case side2 => exact HC0_1.out); rintro e w82 ⟨rfl, hb⟩; refine ⟨_, rfl, ?_⟩; have n0_ := Aside0.mk (blk_below (g := gb395) (o := .cells #[.bool a0_0, .slice A0_1 l0_1.length c0_1] 40 (0, 0)) (by (with_reducible repeat (first | refine blk_drewN ?_ _ | refine blk_drew ?_ | refine blk_alloc ?_ _)); exact BK395.out) hb); have n1_ := Aside0.mk (below_step (by repeat (first | (with_reducible first | exact HB.out | apply below_alloc | apply pw_below_drewN | apply below_drew1 | refine below_set ?_ GE395.out) | exact HB.out)) hb); clear BK395; clear HB; have BK395 := n0_; have HB := n1_; clear n0_ n1_; (try clear hb); (try clear hb2); (try clear hk); (try clear hi); have hcz83_0 : w82.cell? ⟨gb395, 0, none⟩ = some (.bool a0_0) := (blk_cell BK395.out 0).trans rfl; have hcz83_1 : w82.cell? ⟨gb395, 1, none⟩ = some (.slice A0_1 l0_1.length c0_1) := (blk_cell BK395.out 1).trans rfl; have hfz83_0 := blk_frozen BK395.out 0; have hfz83_1 := blk_frozen BK395.out 1) | (go_at_call 28; (with_reducible refine (cond_Print.calls kj71 a0_0 _ _ l0_1 t407 _ ?side1 ?side2 A80.out).mono ?_); (case side1 => repeat (first | exact (Kd.C_below HR0_1.out HB.out) | (with_reducible refine Kd.C_alloc ?_ _) | (with_reducible refine Kd.C_drewN ?_ _) | (with_reducible refine Kd.C_drew ?_))); (case side2 => exact HC0_1.out); rintro e w84 ⟨rfl, hb⟩; have n0_ := Aside0.mk (blk_below (g := gb395) (o := .cells #[.bool a0_0, .slice A0_1 l0_1.length c0_1] 40 (0, 0)) (by (with_reducible repeat (first | refine blk_drewN ?_ _ | refine blk_drew ?_ | refine blk_alloc ?_ _)); exact BK395.out) hb); have n1_ := Aside0.mk (below_step (by repeat (first | (with_reducible first | exact HB.out | apply below_alloc | apply pw_below_drewN | apply below_drew1 | refine below_set ?_ GE395.out) | exact HB.out)) hb); clear BK395; clear HB; have BK395 := n0_; have HB := n1_; clear n0_ n1_; (try clear hb); (try clear hb2); (try clear hk); (try clear hi)))
                        go_meet
                        case rel => exact ⟨_, ((t407.toList != x4_71.toList)), (by first | rfl | (simp; done) | (simp [*]; done)), H', ⟨by have := HJ7.out; have := HK2.out; have := HJ71.out; first | omega | exact Nat.le_refl _⟩, ⟨by (with_reducible repeat (first | refine blk_drewN ?_ _ | refine blk_drew ?_ | refine blk_alloc ?_ _)); exact BK395.out⟩, ⟨by repeat (first | (with_reducible first | exact HB.out | apply below_alloc | apply pw_below_drewN | apply below_drew1 | refine below_set ?_ GE395.out) | exact HB.out)⟩⟩
                    case rest =>
                      clear HC75
                      try clear c1
                      try clear c2
                      try clear p2
                      try clear c3
                      try clear p3
                      try clear q3
                      try clear hx3
                      try clear c4
                      try clear c4b0
                      try clear c4b1
                      try clear c5
                      try clear c6
                      try clear p6
                      try clear c7
                      try clear c8
                      try clear c12
                      try clear c13
                      try clear c13b0
                      try clear c13b1
                      try clear c13b2
                      try clear c16
                      try clear c16b0
                      try clear c16b1
                      try clear c17
                      try clear c20
                      try clear c20b0
                      try clear c21
                      try clear c21b0
                      try clear c22
                      try clear c22b0
                      try clear c23
                      try clear c23b0
                      try clear c23b1
                      try clear c25
                      try clear c26
                      try clear c27
                      try clear c28
                      try clear c28b0
                      try clear c28b1
                      try clear c30
                      try clear c30b0
                      try clear c31
                      try clear c31b0
                      try clear c31b1
                      try clear c31b2
                      try clear c33
                      try clear c33b0
                      try clear c33b1
                      try clear c33b2
                      try clear c35
                      try clear c39
                      try clear c39b0
                      try clear c39b1
                      try clear c39b2
                      try clear p39
                      try clear q39
                      try clear hx39
                      try clear c41
                      try clear c44
                      try clear c44b0
                      try clear c45
                      try clear c45b0
                      try clear c45b1
                      try clear c45b2
                      try clear c47
                      try clear c47b0
                      try clear c47b1
                      try clear c47b2
                      try clear c49
                      try clear c53
                      try clear c53b0
                      try clear c53b1
                      try clear c53b2
                      try clear c55
                      try clear c58
                      try clear c58b0
                      try clear c59
                      try clear c59b0
                      try clear c59b1
                      try clear c59b2
                      try clear c61
                      try clear c61b0
                      try clear c61b1
                      try clear c61b2
                      try clear c63
                      try clear p64
                      try clear c67
                      try clear c67b0
                      try clear c67b1
                      try clear c67b2
                      try clear c69
                      try clear c74
                      try clear c77
                      try clear c77b0
                      try clear c77b1
                      try clear c77b2
                      try clear hcz11_0
                      try clear hcz11_1
                      try clear hcz14_0
                      try clear hcz14_1
                      try clear hcz15_0
                      try clear hcz15_1
                      try clear hcz17_0
                      try clear hcz17_1
                      try clear hcz18_0
                      try clear hcz18_1
                      try clear hcz19_0
                      try clear hcz19_1
                      try clear hcz26_0
                      try clear hcz26_1
                      try clear hcz36_0
                      try clear hcz36_1
                      try clear hcz42_0
                      try clear hcz42_1
                      try clear hcz50_0
                      try clear hcz50_1
                      try clear hcz56_0
                      try clear hcz56_1
                      try clear hcz64_0
                      try clear hcz64_1
                      try clear hcz70_0
                      try clear hcz70_1
                      try clear hcz73_0
                      try clear hcz73_1
                      try clear hcz78_0
                      try clear hcz78_1
                      try clear hcz7_0
                      try clear hcz7_1
                      try clear hcz81_0
                      try clear hcz81_1
                      try clear hcz83_0
                      try clear hcz83_1
                      try clear hfz11_0
                      try clear hfz11_1
                      try clear hfz14_0
                      try clear hfz14_1
                      try clear hfz15_0
                      try clear hfz15_1
                      try clear hfz17_0
                      try clear hfz17_1
                      try clear hfz18_0
                      try clear hfz18_1
                      try clear hfz19_0
                      try clear hfz19_1
                      try clear hfz26_0
                      try clear hfz26_1
                      try clear hfz36_0
                      try clear hfz36_1
                      try clear hfz42_0
                      try clear hfz42_1
                      try clear hfz50_0
                      try clear hfz50_1
                      try clear hfz56_0
                      try clear hfz56_1
                      try clear hfz64_0
                      try clear hfz64_1
                      try clear hfz70_0
                      try clear hfz70_1
                      try clear hfz73_0
                      try clear hfz73_1
                      try clear hfz78_0
                      try clear hfz78_1
                      try clear hfz7_0
                      try clear hfz7_1
                      try clear hfz81_0
                      try clear hfz81_1
                      try clear hfz83_0
                      try clear hfz83_1
                      try clear hx397_0
                      try clear hx397_1
                      try clear p2
                      try clear p3
                      try clear p39
                      try clear p397
                      try clear p6
                      try clear p64
                      try clear q3
                      try clear q39
                      try clear q397
                      obtain ⟨kq, x84_74, rfl, HA, HJ74, BK395, HB⟩ := hcut
                      cases kq with
                      | zero => exact absurd HA.out (by simp [spencelaw46_CondBack.j3])
                      | succ kj74 =>
                        have H := HA.out
                        clear HA
                        simp only [spencelaw46_CondBack.j3] at H
                        by_cases c85 : x84_74 = true
                        · subst c85
                          have H1 : (some false) = some r := by rw [if_pos rfl] at H; exact H
                          clear H
                          have H := H1
                          clear H1
                          obtain rfl := Option.some.inj H
                          go_wp2
                          go_ret
                          exact ⟨by first | rfl | exact ne_empty _ | exact eq_empty _ | (simp [errW_none, errW_some] <;> rfl) | (simp [*, errW_none, errW_some] <;> rfl), by repeat (first | (with_reducible first | exact HB.out | apply below_alloc | apply pw_below_drewN | apply below_drew1 | refine below_set ?_ GE395.out) | exact HB.out)⟩
                        · replace c85 := Bool.eq_false_iff.mpr c85
                          subst c85
                          have H1 : ((cond_Parse.f kj74 x4_71).bind fun bt408 => (if x3_2 = true then (if bt408.2.2 = 0 then (if (bt408.1 == a0_0) = true then ((spencelaw46_same.f kj74 bt408.2.1 l0_1).bind fun t414 => (some t414)) else (some false)) else (some false)) else (some true))) = some r := by rw [if_neg (show ¬ (false = true) by decide)] at H; exact H
                          clear H
                          have H := H1
                          clear H1
                          replace H := Option.bind_eq_some_iff.mp H
                          obtain ⟨⟨t408, t409, t412⟩, A860, H⟩ := H
                          replace H : (if x3_2 = true then (if t412 = 0 then (if (t408 == a0_0) = true then ((spencelaw46_same.f kj74 t409 l0_1).bind fun t414 => (some t414)) else (some false)) else (some false)) else (some true)) = some r := H
                          have A86 := Aside0.mk A860
                          clear A860
                          by_cases c87 : x3_2 = true
                          · subst c87
                            have H1 : (if t412 = 0 then (if (t408 == a0_0) = true then ((spencelaw46_same.f kj74 t409 l0_1).bind fun t414 => (some t414)) else (some false)) else (some false)) = some r := by rw [if_pos rfl] at H; exact H
                            clear H
                            have H := H1
                            clear H1
                            by_cases c88 : t412 = 0
                            · rw [if_pos c88] at H
                              have c88b0 : (t412 == 0) = true := beq_iff_eq.mpr c88
                              have c88b1 : (t412 != 0) = false := bne_eq_false_iff_eq.mpr c88
                              clear c88
                              by_cases c89 : (t408 == a0_0) = true
                              · rw [if_pos c89] at H
                                have c89b0 : (t408 == a0_0) = true := c89
                                (try (have c89b1 : decide (t408 = a0_0) = true := by simpa using c89))
                                (try (have c89b2 : (t408 == a0_0) = true := by simpa using c89))
                                clear c89
                                replace H := Option.bind_eq_some_iff.mp H
                                obtain ⟨t414, A900, H⟩ := H
                                replace H : (some t414) = some r := H
                                have A90 := Aside0.mk A900
                                clear A900
                                obtain rfl := Option.some.inj H
                                go_wp2_with (first | ((with_reducible refine gate_callee (f := 18) rfl ?_); refine goesL_ (some 87) rfl rfl Try.func18 (by kernel_rfl) rfl #[.string x4_71] rfl (by (try simp only [List.map_toArray, List.map_cons, List.map_nil]); first | done | rfl | (simp only [List.length_drop, List.length_take]; rfl)) ?_; (with_reducible refine (cond_Parse.calls kj74 x4_71 t408 t409 t412 _ A86.out).mono ?_); rintro e w91 ⟨v410, rfl, ho0, hb⟩; refine ⟨_, rfl, ?_⟩; have n0_ := Aside0.mk (Kd.R_lower ho0 (below_size (by repeat (first | (with_reducible first | exact HB.out | apply below_alloc | apply pw_below_drewN | apply below_drew1 | refine below_set ?_ GE395.out) | exact HB.out)))); have n1_ := Aside0.mk (blk_below (g := gb395) (o := .cells #[.bool a0_0, .slice A0_1 l0_1.length c0_1] 40 (0, 0)) (by (with_reducible repeat (first | refine blk_drewN ?_ _ | refine blk_drew ?_ | refine blk_alloc ?_ _)); exact BK395.out) hb); have n2_ := Aside0.mk (below_step (by repeat (first | (with_reducible first | exact HB.out | apply below_alloc | apply pw_below_drewN | apply below_drew1 | refine below_set ?_ GE395.out) | exact HB.out)) hb); clear BK395; clear HB; have HO411 := n0_; have BK395 := n1_; have HB := n2_; clear n0_ n1_ n2_; (try clear hb); (try clear hb2); (try clear hk); (try clear hi); (try clear ho0)) | ((with_reducible refine gate_dst (N := 7) rfl ?_); (try (refine gate_guard (by rfl) ?_; dsimp only)); refine box_event ?hg (N := 7) ?hd (cs := #[.bool false, .slice none 0 0]) (t := 40) ?hr ?_; (case hd => rfl); (case hg => rfl); (case hr => first | (go_simp; done) | (go_simp; rfl)); intro gb413 hg w92 hbox hb; have n0_ := Aside0.mk (Kd.R_below (by (with_reducible repeat (first | apply Kd.R_alloc | apply Kd.R_drewN | apply Kd.R_drew)); exact HO411.out) hb); have n1_ := Aside0.mk (blk_below (g := gb395) (o := .cells #[.bool a0_0, .slice A0_1 l0_1.length c0_1] 40 (0, 0)) (by (with_reducible repeat (first | refine blk_drewN ?_ _ | refine blk_drew ?_ | refine blk_alloc ?_ _)); exact BK395.out) hb); have n2_ := Aside0.mk (below_step (by repeat (first | (with_reducible first | exact HB.out | apply below_alloc | apply pw_below_drewN | apply below_drew1 | refine below_set ?_ GE395.out) | exact HB.out)) hb); have n3_ := Aside0.mk (hbox); have n4_ := Aside0.mk ((by rw [hg]; exact (below_size (by repeat (first | (with_reducible first | exact HB.out | apply below_alloc | apply pw_below_drewN | apply below_drew1 | refine below_set ?_ GE395.out) | exact HB.out))) : w.heap.size ≤ gb413)); have n5_ := Aside0.mk ((by rw [hg]; exact (below_size (by repeat (first | (with_reducible first | exact HB.out | apply below_alloc | apply pw_below_drewN | apply below_drew1 | refine below_set ?_ GE395.out) | exact HB.out))) : w.heap.size ≤ gb413)); have n6_ := Aside0.mk ((by rw [hg]; exact Nat.ne_of_lt (blk_lt (g := gb395) (o := .cells #[.bool a0_0, .slice A0_1 l0_1.length c0_1] 40 (0, 0)) (by (with_reducible repeat (first | refine blk_drewN ?_ _ | refine blk_drew ?_ | refine blk_alloc ?_ _)); exact BK395.out)) : gb395 ≠ gb413)); have n7_ := Aside0.mk ((by rw [hg]; exact Nat.ne_of_gt (blk_lt (g := gb395) (o := .cells #[.bool a0_0, .slice A0_1 l0_1.length c0_1] 40 (0, 0)) (by (with_reducible repeat (first | refine blk_drewN ?_ _ | refine blk_drew ?_ | refine blk_alloc ?_ _)); exact BK395.out)) : gb413 ≠ gb395)); clear HO411; clear BK395; clear HB; have HO411 := n0_; have BK395 := n1_; have HB := n2_; have BK413 := n3_; have GW413 := n4_; have GE413 := n5_; have NB395_413 := n6_; have NB413_395 := n7_; clear n0_ n1_ n2_ n3_ n4_ n5_ n6_ n7_; clear hb hbox hg; have hnb93 := NB413_395.out; have hnc93 := NB395_413.out; have hcz94_0 : w92.cell? ⟨gb413, 0, none⟩ = some (.bool false) := (blk_cell BK413.out 0).trans rfl; have hcz94_1 : w92.cell? ⟨gb413, 1, none⟩ = some (.slice none 0 0) := (blk_cell BK413.out 1).trans rfl; have hfz94_0 := blk_frozen BK413.out 0; have hfz94_1 := blk_frozen BK413.out 1; obtain ⟨Ao95, co95, eo95⟩ := Kd.R_slice HO411.out; subst eo95; have hcz96_0 : w92.cell? ⟨gb395, 0, none⟩ = some (.bool a0_0) := (blk_cell BK395.out 0).trans rfl; have hcz96_1 : w92.cell? ⟨gb395, 1, none⟩ = some (.slice A0_1 l0_1.length c0_1) := (blk_cell BK395.out 1).trans rfl; have hfz96_0 := blk_frozen BK395.out 0; have hfz96_1 := blk_frozen BK395.out 1) | (go_at_call 20; (with_reducible refine (spencelaw46_same.calls kj74 _ _ t409 _ _ l0_1 t414 _ ?side1 ?side2 ?side3 ?side4 A90.out).mono ?_); (case side1 => refine (Kd.R_reads' (e := 51) (base := w.heap.size) (ok := fun k_ => True) (n := t409.length) (c := co95) ?_).2.2; exact (by (with_reducible repeat (first | apply Kd.R_alloc | apply Kd.R_drewN | apply Kd.R_drew)); exact (Kd.R_mono (Kd.R_far (p := ⟨gb413, 1, none⟩) (Kd.R_far (p := ⟨gb413, 0, none⟩) (Kd.R_types HO411.out BK413.out (by decide)) (fun _ hk => hk.2) (.bool t408)) (fun _ hk => hk.2) (.slice Ao95 t409.length co95)) (fun _ h_ => h_.1)))); (case side2 => exact (Kd.R_reads' HO411.out).2.1); (case side3 => exact Kd.C_below HR0_1.out (by repeat (first | (with_reducible first | exact HB.out | apply below_alloc | apply pw_below_drewN | apply below_drew1 | refine below_set ?_ GE395.out | refine below_set ?_ GE413.out) | exact HB.out))); (case side4 => exact HC0_1.out); rintro e w' ⟨rfl, ⟨nd, rfl⟩⟩))
                                go_ret
                                exact ⟨by first | rfl | exact ne_empty _ | exact eq_empty _ | (simp [errW_none, errW_some] <;> rfl) | (simp [*, errW_none, errW_some] <;> rfl), by repeat (first | (with_reducible first | exact HB.out | apply below_alloc | apply pw_below_drewN | apply below_drew1 | refine below_set ?_ GE395.out | refine below_set ?_ GE413.out) | exact HB.out)⟩
                              · rw [if_neg c89] at H
                                have c89b0 : (t408 == a0_0) = false := by simpa using c89
                                (try (have c89b1 : decide (t408 = a0_0) = false := by simpa using c89))
                                (try (have c89b2 : (t408 == a0_0) = false := by simpa using c89))
                                (try (have c89b3 : ¬ (t408 = a0_0) := by simpa using c89))
                                clear c89
                                obtain rfl := Option.some.inj H
                                go_wp2_with (first | ((with_reducible refine gate_callee (f := 18) rfl ?_); refine goesL_ (some 87) rfl rfl Try.func18 (by kernel_rfl) rfl #[.string x4_71] rfl (by (try simp only [List.map_toArray, List.map_cons, List.map_nil]); first | done | rfl | (simp only [List.length_drop, List.length_take]; rfl)) ?_; (with_reducible refine (cond_Parse.calls kj74 x4_71 t408 t409 t412 _ A86.out).mono ?_); rintro e w97 ⟨v410, rfl, ho0, hb⟩; refine ⟨_, rfl, ?_⟩; have n0_ := Aside0.mk (Kd.R_lower ho0 (below_size (by repeat (first | (with_reducible first | exact HB.out | apply below_alloc | apply pw_below_drewN | apply below_drew1 | refine below_set ?_ GE395.out) | exact HB.out)))); have n1_ := Aside0.mk (blk_below (g := gb395) (o := .cells #[.bool a0_0, .slice A0_1 l0_1.length c0_1] 40 (0, 0)) (by (with_reducible repeat (first | refine blk_drewN ?_ _ | refine blk_drew ?_ | refine blk_alloc ?_ _)); exact BK395.out) hb); have n2_ := Aside0.mk (below_step (by repeat (first | (with_reducible first | exact HB.out | apply below_alloc | apply pw_below_drewN | apply below_drew1 | refine below_set ?_ GE395.out) | exact HB.out)) hb); clear BK395; clear HB; have HO411 := n0_; have BK395 := n1_; have HB := n2_; clear n0_ n1_ n2_; (try clear hb); (try clear hb2); (try clear hk); (try clear hi); (try clear ho0)) | ((with_reducible refine gate_dst (N := 7) rfl ?_); (try (refine gate_guard (by rfl) ?_; dsimp only)); refine box_event ?hg (N := 7) ?hd (cs := #[.bool false, .slice none 0 0]) (t := 40) ?hr ?_; (case hd => rfl); (case hg => rfl); (case hr => first | (go_simp; done) | (go_simp; rfl)); intro gb413 hg w98 hbox hb; have n0_ := Aside0.mk (Kd.R_below (by (with_reducible repeat (first | apply Kd.R_alloc | apply Kd.R_drewN | apply Kd.R_drew)); exact HO411.out) hb); have n1_ := Aside0.mk (blk_below (g := gb395) (o := .cells #[.bool a0_0, .slice A0_1 l0_1.length c0_1] 40 (0, 0)) (by (with_reducible repeat (first | refine blk_drewN ?_ _ | refine blk_drew ?_ | refine blk_alloc ?_ _)); exact BK395.out) hb); have n2_ := Aside0.mk (below_step (by repeat (first | (with_reducible first | exact HB.out | apply below_alloc | apply pw_below_drewN | apply below_drew1 | refine below_set ?_ GE395.out) | exact HB.out)) hb); have n3_ := Aside0.mk (hbox); have n4_ := Aside0.mk ((by rw [hg]; exact (below_size (by repeat (first | (with_reducible first | exact HB.out | apply below_alloc | apply pw_below_drewN | apply below_drew1 | refine below_set ?_ GE395.out) | exact HB.out))) : w.heap.size ≤ gb413)); have n5_ := Aside0.mk ((by rw [hg]; exact (below_size (by repeat (first | (with_reducible first | exact HB.out | apply below_alloc | apply pw_below_drewN | apply below_drew1 | refine below_set ?_ GE395.out) | exact HB.out))) : w.heap.size ≤ gb413)); have n6_ := Aside0.mk ((by rw [hg]; exact Nat.ne_of_lt (blk_lt (g := gb395) (o := .cells #[.bool a0_0, .slice A0_1 l0_1.length c0_1] 40 (0, 0)) (by (with_reducible repeat (first | refine blk_drewN ?_ _ | refine blk_drew ?_ | refine blk_alloc ?_ _)); exact BK395.out)) : gb395 ≠ gb413)); have n7_ := Aside0.mk ((by rw [hg]; exact Nat.ne_of_gt (blk_lt (g := gb395) (o := .cells #[.bool a0_0, .slice A0_1 l0_1.length c0_1] 40 (0, 0)) (by (with_reducible repeat (first | refine blk_drewN ?_ _ | refine blk_drew ?_ | refine blk_alloc ?_ _)); exact BK395.out)) : gb413 ≠ gb395)); clear HO411; clear BK395; clear HB; have HO411 := n0_; have BK395 := n1_; have HB := n2_; have BK413 := n3_; have GW413 := n4_; have GE413 := n5_; have NB395_413 := n6_; have NB413_395 := n7_; clear n0_ n1_ n2_ n3_ n4_ n5_ n6_ n7_; clear hb hbox hg; have hnb99 := NB413_395.out; have hnc99 := NB395_413.out; have hcz100_0 : w98.cell? ⟨gb413, 0, none⟩ = some (.bool false) := (blk_cell BK413.out 0).trans rfl; have hcz100_1 : w98.cell? ⟨gb413, 1, none⟩ = some (.slice none 0 0) := (blk_cell BK413.out 1).trans rfl; have hfz100_0 := blk_frozen BK413.out 0; have hfz100_1 := blk_frozen BK413.out 1; obtain ⟨Ao101, co101, eo101⟩ := Kd.R_slice HO411.out; subst eo101; have hcz102_0 : w98.cell? ⟨gb395, 0, none⟩ = some (.bool a0_0) := (blk_cell BK395.out 0).trans rfl; have hcz102_1 : w98.cell? ⟨gb395, 1, none⟩ = some (.slice A0_1 l0_1.length c0_1) := (blk_cell BK395.out 1).trans rfl; have hfz102_0 := blk_frozen BK395.out 0; have hfz102_1 := blk_frozen BK395.out 1))
                                go_ret
                                exact ⟨by first | rfl | exact ne_empty _ | exact eq_empty _ | (simp [errW_none, errW_some] <;> rfl) | (simp [*, errW_none, errW_some] <;> rfl), by repeat (first | (with_reducible first | exact HB.out | apply below_alloc | apply pw_below_drewN | apply below_drew1 | refine below_set ?_ GE395.out | refine below_set ?_ GE413.out) | exact HB.out)⟩
                            · rw [if_neg c88] at H
                              have c88b0 : (t412 == 0) = false := beq_eq_false_iff_ne.mpr c88
                              have c88b1 : (t412 != 0) = true := bne_iff_ne.mpr c88
                              obtain rfl := Option.some.inj H
                              go_wp2_with (first | ((with_reducible refine gate_callee (f := 18) rfl ?_); refine goesL_ (some 87) rfl rfl Try.func18 (by kernel_rfl) rfl #[.string x4_71] rfl (by (try simp only [List.map_toArray, List.map_cons, List.map_nil]); first | done | rfl | (simp only [List.length_drop, List.length_take]; rfl)) ?_; (with_reducible refine (cond_Parse.calls kj74 x4_71 t408 t409 t412 _ A86.out).mono ?_); rintro e w103 ⟨v410, rfl, ho0, hb⟩; refine ⟨_, rfl, ?_⟩; have n0_ := Aside0.mk (Kd.R_lower ho0 (below_size (by repeat (first | (with_reducible first | exact HB.out | apply below_alloc | apply pw_below_drewN | apply below_drew1 | refine below_set ?_ GE395.out) | exact HB.out)))); have n1_ := Aside0.mk (blk_below (g := gb395) (o := .cells #[.bool a0_0, .slice A0_1 l0_1.length c0_1] 40 (0, 0)) (by (with_reducible repeat (first | refine blk_drewN ?_ _ | refine blk_drew ?_ | refine blk_alloc ?_ _)); exact BK395.out) hb); have n2_ := Aside0.mk (below_step (by repeat (first | (with_reducible first | exact HB.out | apply below_alloc | apply pw_below_drewN | apply below_drew1 | refine below_set ?_ GE395.out) | exact HB.out)) hb); clear BK395; clear HB; have HO411 := n0_; have BK395 := n1_; have HB := n2_; clear n0_ n1_ n2_; (try clear hb); (try clear hb2); (try clear hk); (try clear hi); (try clear ho0)) | ((with_reducible refine gate_dst (N := 7) rfl ?_); (try (refine gate_guard (by rfl) ?_; dsimp only)); refine box_event ?hg (N := 7) ?hd (cs := #[.bool false, .slice none 0 0]) (t := 40) ?hr ?_; (case hd => rfl); (case hg => rfl); (case hr => first | (go_simp; done) | (go_simp; rfl)); intro gb413 hg w104 hbox hb; have n0_ := Aside0.mk (Kd.R_below (by (with_reducible repeat (first | apply Kd.R_alloc | apply Kd.R_drewN | apply Kd.R_drew)); exact HO411.out) hb); have n1_ := Aside0.mk (blk_below (g := gb395) (o := .cells #[.bool a0_0, .slice A0_1 l0_1.length c0_1] 40 (0, 0)) (by (with_reducible repeat (first | refine blk_drewN ?_ _ | refine blk_drew ?_ | refine blk_alloc ?_ _)); exact BK395.out) hb); have n2_ := Aside0.mk (below_step (by repeat (first | (with_reducible first | exact HB.out | apply below_alloc | apply pw_below_drewN | apply below_drew1 | refine below_set ?_ GE395.out) | exact HB.out)) hb); have n3_ := Aside0.mk (hbox); have n4_ := Aside0.mk ((by rw [hg]; exact (below_size (by repeat (first | (with_reducible first | exact HB.out | apply below_alloc | apply pw_below_drewN | apply below_drew1 | refine below_set ?_ GE395.out) | exact HB.out))) : w.heap.size ≤ gb413)); have n5_ := Aside0.mk ((by rw [hg]; exact (below_size (by repeat (first | (with_reducible first | exact HB.out | apply below_alloc | apply pw_below_drewN | apply below_drew1 | refine below_set ?_ GE395.out) | exact HB.out))) : w.heap.size ≤ gb413)); have n6_ := Aside0.mk ((by rw [hg]; exact Nat.ne_of_lt (blk_lt (g := gb395) (o := .cells #[.bool a0_0, .slice A0_1 l0_1.length c0_1] 40 (0, 0)) (by (with_reducible repeat (first | refine blk_drewN ?_ _ | refine blk_drew ?_ | refine blk_alloc ?_ _)); exact BK395.out)) : gb395 ≠ gb413)); have n7_ := Aside0.mk ((by rw [hg]; exact Nat.ne_of_gt (blk_lt (g := gb395) (o := .cells #[.bool a0_0, .slice A0_1 l0_1.length c0_1] 40 (0, 0)) (by (with_reducible repeat (first | refine blk_drewN ?_ _ | refine blk_drew ?_ | refine blk_alloc ?_ _)); exact BK395.out)) : gb413 ≠ gb395)); clear HO411; clear BK395; clear HB; have HO411 := n0_; have BK395 := n1_; have HB := n2_; have BK413 := n3_; have GW413 := n4_; have GE413 := n5_; have NB395_413 := n6_; have NB413_395 := n7_; clear n0_ n1_ n2_ n3_ n4_ n5_ n6_ n7_; clear hb hbox hg; have hnb105 := NB413_395.out; have hnc105 := NB395_413.out; have hcz106_0 : w104.cell? ⟨gb413, 0, none⟩ = some (.bool false) := (blk_cell BK413.out 0).trans rfl; have hcz106_1 : w104.cell? ⟨gb413, 1, none⟩ = some (.slice none 0 0) := (blk_cell BK413.out 1).trans rfl; have hfz106_0 := blk_frozen BK413.out 0; have hfz106_1 := blk_frozen BK413.out 1; obtain ⟨Ao107, co107, eo107⟩ := Kd.R_slice HO411.out; subst eo107))
                              go_ret
                              exact ⟨by first | rfl | exact ne_empty _ | exact eq_empty _ | (simp [errW_none, errW_some] <;> rfl) | (simp [*, errW_none, errW_some] <;> rfl), by repeat (first | (with_reducible first | exact HB.out | apply below_alloc | apply pw_below_drewN | apply below_drew1 | refine below_set ?_ GE395.out | refine below_set ?_ GE413.out) | exact HB.out)⟩
                          · replace c87 := Bool.eq_false_iff.mpr c87
                            subst c87
                            have H1 : (some true) = some r := by rw [if_neg (show ¬ (false = true) by decide)] at H; exact H
                            clear H
                            have H := H1
                            clear H1
                            obtain rfl := Option.some.inj H
                            go_wp2_with (first | ((with_reducible refine gate_callee (f := 18) rfl ?_); refine goesL_ (some 87) rfl rfl Try.func18 (by kernel_rfl) rfl #[.string x4_71] rfl (by (try simp only [List.map_toArray, List.map_cons, List.map_nil]); first | done | rfl | (simp only [List.length_drop, List.length_take]; rfl)) ?_; (with_reducible refine (cond_Parse.calls kj74 x4_71 t408 t409 t412 _ A86.out).mono ?_); rintro e w108 ⟨v410, rfl, ho0, hb⟩; refine ⟨_, rfl, ?_⟩; have n0_ := Aside0.mk (Kd.R_lower ho0 (below_size (by repeat (first | (with_reducible first | exact HB.out | apply below_alloc | apply pw_below_drewN | apply below_drew1 | refine below_set ?_ GE395.out) | exact HB.out)))); have n1_ := Aside0.mk (blk_below (g := gb395) (o := .cells #[.bool a0_0, .slice A0_1 l0_1.length c0_1] 40 (0, 0)) (by (with_reducible repeat (first | refine blk_drewN ?_ _ | refine blk_drew ?_ | refine blk_alloc ?_ _)); exact BK395.out) hb); have n2_ := Aside0.mk (below_step (by repeat (first | (with_reducible first | exact HB.out | apply below_alloc | apply pw_below_drewN | apply below_drew1 | refine below_set ?_ GE395.out) | exact HB.out)) hb); clear BK395; clear HB; have HO411 := n0_; have BK395 := n1_; have HB := n2_; clear n0_ n1_ n2_; (try clear hb); (try clear hb2); (try clear hk); (try clear hi); (try clear ho0)) | ((with_reducible refine gate_dst (N := 7) rfl ?_); (try (refine gate_guard (by rfl) ?_; dsimp only)); refine box_event ?hg (N := 7) ?hd (cs := #[.bool false, .slice none 0 0]) (t := 40) ?hr ?_; (case hd => rfl); (case hg => rfl); (case hr => first | (go_simp; done) | (go_simp; rfl)); intro gb413 hg w109 hbox hb; have n0_ := Aside0.mk (Kd.R_below (by (with_reducible repeat (first | apply Kd.R_alloc | apply Kd.R_drewN | apply Kd.R_drew)); exact HO411.out) hb); have n1_ := Aside0.mk (blk_below (g := gb395) (o := .cells #[.bool a0_0, .slice A0_1 l0_1.length c0_1] 40 (0, 0)) (by (with_reducible repeat (first | refine blk_drewN ?_ _ | refine blk_drew ?_ | refine blk_alloc ?_ _)); exact BK395.out) hb); have n2_ := Aside0.mk (below_step (by repeat (first | (with_reducible first | exact HB.out | apply below_alloc | apply pw_below_drewN | apply below_drew1 | refine below_set ?_ GE395.out) | exact HB.out)) hb); have n3_ := Aside0.mk (hbox); have n4_ := Aside0.mk ((by rw [hg]; exact (below_size (by repeat (first | (with_reducible first | exact HB.out | apply below_alloc | apply pw_below_drewN | apply below_drew1 | refine below_set ?_ GE395.out) | exact HB.out))) : w.heap.size ≤ gb413)); have n5_ := Aside0.mk ((by rw [hg]; exact (below_size (by repeat (first | (with_reducible first | exact HB.out | apply below_alloc | apply pw_below_drewN | apply below_drew1 | refine below_set ?_ GE395.out) | exact HB.out))) : w.heap.size ≤ gb413)); have n6_ := Aside0.mk ((by rw [hg]; exact Nat.ne_of_lt (blk_lt (g := gb395) (o := .cells #[.bool a0_0, .slice A0_1 l0_1.length c0_1] 40 (0, 0)) (by (with_reducible repeat (first | refine blk_drewN ?_ _ | refine blk_drew ?_ | refine blk_alloc ?_ _)); exact BK395.out)) : gb395 ≠ gb413)); have n7_ := Aside0.mk ((by rw [hg]; exact Nat.ne_of_gt (blk_lt (g := gb395) (o := .cells #[.bool a0_0, .slice A0_1 l0_1.length c0_1] 40 (0, 0)) (by (with_reducible repeat (first | refine blk_drewN ?_ _ | refine blk_drew ?_ | refine blk_alloc ?_ _)); exact BK395.out)) : gb413 ≠ gb395)); clear HO411; clear BK395; clear HB; have HO411 := n0_; have BK395 := n1_; have HB := n2_; have BK413 := n3_; have GW413 := n4_; have GE413 := n5_; have NB395_413 := n6_; have NB413_395 := n7_; clear n0_ n1_ n2_ n3_ n4_ n5_ n6_ n7_; clear hb hbox hg; have hnb110 := NB413_395.out; have hnc110 := NB395_413.out; have hcz111_0 : w109.cell? ⟨gb413, 0, none⟩ = some (.bool false) := (blk_cell BK413.out 0).trans rfl; have hcz111_1 : w109.cell? ⟨gb413, 1, none⟩ = some (.slice none 0 0) := (blk_cell BK413.out 1).trans rfl; have hfz111_0 := blk_frozen BK413.out 0; have hfz111_1 := blk_frozen BK413.out 1; obtain ⟨Ao112, co112, eo112⟩ := Kd.R_slice HO411.out; subst eo112))
                            go_ret
                            exact ⟨by first | rfl | exact ne_empty _ | exact eq_empty _ | (simp [errW_none, errW_some] <;> rfl) | (simp [*, errW_none, errW_some] <;> rfl), by repeat (first | (with_reducible first | exact HB.out | apply below_alloc | apply pw_below_drewN | apply below_drew1 | refine below_set ?_ GE395.out | refine below_set ?_ GE413.out) | exact HB.out)⟩
  · replace c3 := Bool.eq_false_iff.mpr c3
    subst c3
    have H1 : (some false) = some r := by rw [if_neg (show ¬ (false = true) by decide)] at H; exact H
    clear H
    have H := H1
    clear H1
    obtain rfl := Option.some.inj H
    go_enter Try.func8, Try.ntmps8
    go_wp2_with (first | ((with_reducible refine gate_dst (N := 1) rfl ?_); (try (refine gate_guard (by rfl) ?_; dsimp only)); refine box_event ?hg (N := 1) ?hd (cs := #[.bool a0_0, .slice A0_1 l0_1.length c0_1]) (t := 40) ?hr ?_; (case hd => rfl); (case hg => rfl); (case hr => first | (go_simp; done) | (go_simp; rfl)); intro gb395 hg w113 hbox hb; have n0_ := Aside0.mk (below_step (by repeat (first | (with_reducible first | exact HB.out | apply below_alloc | apply pw_below_drewN | apply below_drew1) | exact HB.out)) hb); have n1_ := Aside0.mk (hbox); have n2_ := Aside0.mk ((by rw [hg]; exact (below_size (by repeat (first | (with_reducible first | exact HB.out | apply below_alloc | apply pw_below_drewN | apply below_drew1) | exact HB.out))) : w.heap.size ≤ gb395)); have n3_ := Aside0.mk ((by rw [hg]; exact (below_size (by repeat (first | (with_reducible first | exact HB.out | apply below_alloc | apply pw_below_drewN | apply below_drew1) | exact HB.out))) : w.heap.size ≤ gb395)); clear HB; have HB := n0_; have BK395 := n1_; have GW395 := n2_; have GE395 := n3_; clear n0_ n1_ n2_ n3_; clear hb hbox hg) | ((with_reducible refine gate_callee (f := 17) rfl ?_); refine goesL_ (some 9) rfl rfl Try.func17 (by kernel_rfl) rfl #[] rfl (by (try simp only [List.map_toArray, List.map_cons, List.map_nil]); first | done | rfl | (simp only [List.length_drop, List.length_take]; rfl)) ?_; (with_reducible refine (spencelaw46_awake.calls k  false _ A2.out).mono ?_); rintro e w114 ⟨rfl, hb⟩; refine ⟨_, rfl, ?_⟩; have n0_ := Aside0.mk (blk_below (g := gb395) (o := .cells #[.bool a0_0, .slice A0_1 l0_1.length c0_1] 40 (0, 0)) (by (with_reducible repeat (first | refine blk_drewN ?_ _ | refine blk_drew ?_ | refine blk_alloc ?_ _)); exact BK395.out) hb); have n1_ := Aside0.mk (below_step (by repeat (first | (with_reducible first | exact HB.out | apply below_alloc | apply pw_below_drewN | apply below_drew1 | refine below_set ?_ GE395.out) | exact HB.out)) hb); clear BK395; clear HB; have BK395 := n0_; have HB := n1_; clear n0_ n1_; (try clear hb); (try clear hb2); (try clear hk); (try clear hi)))
    go_ret
    exact ⟨by first | rfl | exact ne_empty _ | exact eq_empty _ | (simp [errW_none, errW_some] <;> rfl) | (simp [*, errW_none, errW_some] <;> rfl), by repeat (first | (with_reducible first | exact HB.out | apply below_alloc | apply pw_below_drewN | apply below_drew1 | refine below_set ?_ GE395.out) | exact HB.out)⟩
/-- THE ONE PURE STATEMENT of spencelaw46_CondBack. -/
def spencelaw46_CondBack.Pure : Prop := ∀ (a0_0 : Bool) (l0_1 : List (S51)), l0_1.length ≤ 9223372036854775807 → (∀ x ∈ l0_1, (True ∧ x.f1.size ≤ maxLen)) → ∃ k, spencelaw46_CondBack.f k a0_0 l0_1 = some true
end Go.Proofs.Ytahoibanpplhbaa.PAll
namespace Go.Proofs.Ytahoibanpplhbaa.Pure
open Go.RowKit Go.Proofs.YtahoibanpplhbaaW.PrintWords Go.Proofs.YtahoibanpplhbaaW.PrintLast Go.Proofs.YtahoibanpplhbaaW.PrintMore
theorem Ev.succ {α : Type} {g : Nat → Option α} {r : α} (h : Ev (fun k => g (k + 1)) r) : Ev g r := Ev.step (fun _ => rfl) h
theorem Ev.all {α : Type} {g : Nat → Option α} {r : α} (h : ∀ k, g k = some r) : Ev g r := ⟨0, fun k _ => h k⟩
theorem Ev.pos {α : Type} {g : Nat → Option α} {r : α} (h : ∀ k, g (k + 1) = some r) : Ev g r := ⟨1, fun k hk => by obtain ⟨j, rfl⟩ : ∃ j, k = j + 1 := ⟨k - 1, by omega⟩; exact h j⟩
theorem wrap_id {x : Int} (h : -9223372036854775808 ≤ x ∧ x ≤ 9223372036854775807) : wrap64 x = x := by unfold wrap64; omega
end Go.Proofs.Ytahoibanpplhbaa.Pure
namespace Go.Proofs.Ytahoibanpplhbaa.Pure
open Go.RowKit Go.Proofs.YtahoibanpplhbaaW.PrintWords
def isB (b : Int) : Prop := 0 ≤ b ∧ b < 256
theorem bytesOf_inj {s t : ByteArray} : bytesOf s = bytesOf t ↔ s = t := by
  constructor
  · intro h
    have h2 : s.data.toList = t.data.toList := by
      unfold bytesOf at h
      exact (List.map_inj_right (fun a b h => by have := Int.ofNat_inj.1 h; exact UInt8.toNat_inj.1 this)).1 h
    have h3 : s.data = t.data := Array.toList_inj.1 h2
    cases s; cases t; simp_all
  · intro h; rw [h]
theorem toList_bytes (s t : ByteArray) : s.toList = t.toList ↔ bytesOf s = bytesOf t := by
  rw [ByteArray.toList_eq, ByteArray.toList_eq, bytesOf_inj]
  constructor
  · intro h; have := Array.toList_inj.1 h; cases s; cases t; simp_all
  · intro h; rw [h]
theorem toList_beq (s t : ByteArray) : (s.toList == t.toList) = decide (bytesOf s = bytesOf t) := by
  by_cases h : bytesOf s = bytesOf t
  · rw [decide_eq_true h, beq_iff_eq, toList_bytes]; exact h
  · rw [decide_eq_false h, beq_eq_false_iff_ne, ne_eq, toList_bytes]; exact h
theorem bytesOf_append (s t : ByteArray) : bytesOf (s ++ t) = bytesOf s ++ bytesOf t := by
  unfold bytesOf; rw [ByteArray.data_append, Array.toList_append, List.map_append]
theorem bytesOf_isB (s : ByteArray) : ∀ b ∈ bytesOf s, isB b := by
  intro b hb
  unfold bytesOf at hb
  obtain ⟨x, _, rfl⟩ := List.mem_map.1 hb
  have := x.toNat_lt
  unfold isB; omega
theorem bytesOf_str (l : List Int) (h : ∀ b ∈ l, isB b) : bytesOf (strOfNums l) = l := by
  unfold bytesOf
  rw [strOfNums_data, List.map_map]
  conv => rhs; rw [← List.map_id l]
  apply List.map_congr_left
  intro b hb
  have := h b hb
  unfold isB at this
  simp
  omega
theorem str_append (l m : List Int) : strOfNums l ++ strOfNums m = strOfNums (l ++ m) := by
  unfold strOfNums
  apply ByteArray.ext
  rw [ByteArray.data_append]
  simp
theorem str_bytes (s : ByteArray) : strOfNums (bytesOf s) = s := by
  rw [← bytesOf_inj]
  exact bytesOf_str _ (bytesOf_isB s)
theorem size_str (l : List Int) : (strOfNums l).size = l.length := strOfNums_size l
theorem bytesOf_extract (s : ByteArray) (a b : Nat) : bytesOf (s.extract a b) = ((bytesOf s).take b).drop a := by
  unfold bytesOf
  rw [ByteArray.data_extract, Array.toList_extract, List.extract_eq_take_drop]
  rw [← List.map_take, ← List.map_drop]
  congr 1
  by_cases h : a ≤ b
  · rw [List.take_drop, Nat.add_sub_cancel' h]
  · have e : b - a = 0 := by omega
    rw [e, List.take_zero, List.drop_of_length_le (by rw [List.length_take]; omega)]
theorem toList_nil (s : ByteArray) : s.toList = ([] : List UInt8) ↔ bytesOf s = [] := by
  rw [ByteArray.toList_eq]
  unfold bytesOf
  simp
theorem rd_eq (l : List Int) (i : Int) (h0 : 0 ≤ i) (h1 : i < l.length) : rd l i = l[i.toNat]'(by omega) := by
  have : i.toNat < l.length := by omega
  simp [rd, this]
end Go.Proofs.Ytahoibanpplhbaa.Pure
namespace Go.Proofs.Ytahoibanpplhbaa.Pure
open Go.RowKit Go.Proofs.YtahoibanpplhbaaW.PrintWords
/-- the number of digits (bytes as numbers), from n on -/
def fval (n : Int) (l : List Int) : Int := l.foldl (fun n b => 10 * n + (b - 48)) n
def isDig (b : Int) : Bool := decide (48 ≤ b) && decide (b ≤ 57)
end Go.Proofs.Ytahoibanpplhbaa.Pure
namespace Go.Proofs.Ytahoibanpplhbaa.Pure
open Go.RowKit Go.Proofs.Ytahoibanpplhbaa.PAll Go.Proofs.YtahoibanpplhbaaW.PrintWords Go.Proofs.YtahoibanpplhbaaW.PrintLast Go.Proofs.YtahoibanpplhbaaW.PrintMore
theorem bytes_drop (s : ByteArray) (i : Int) (h0 : 0 ≤ i) (h1 : i < s.size) : (bytesOf s).drop i.toNat = bt s i :: (bytesOf s).drop (i + 1).toNat := by
  have hl : i.toNat < (bytesOf s).length := by rw [bytesOf_length]; omega
  have e : (i + 1).toNat = i.toNat + 1 := by omega
  rw [List.drop_eq_getElem_cons hl, e, ← rd_bytesOf]
  simp [rd, hl]
theorem bytes_take (s : ByteArray) (i : Int) (h0 : 0 ≤ i) (h1 : i < s.size) : (bytesOf s).take (i + 1).toNat = (bytesOf s).take i.toNat ++ [bt s i] := by
  have hl : i.toNat < (bytesOf s).length := by rw [bytesOf_length]; omega
  have e : (i + 1).toNat = i.toNat + 1 := by omega
  rw [e, List.take_succ_eq_append_getElem hl, ← rd_bytesOf]
  simp [rd, hl]
theorem ext_str (s : ByteArray) (a b : Nat) : s.extract a b = strOfNums (((bytesOf s).take b).drop a) := by
  rw [← bytesOf_extract, str_bytes]
theorem take_size (s : ByteArray) : (bytesOf s).take s.size = bytesOf s := List.take_of_length_le (by rw [bytesOf_length]; omega)
end Go.Proofs.Ytahoibanpplhbaa.Pure
namespace Go.Proofs.Ytahoibanpplhbaa.Pure
open Go.RowKit Go.Proofs.Ytahoibanpplhbaa.PAll Go.Proofs.YtahoibanpplhbaaW.PrintWords Go.Proofs.YtahoibanpplhbaaW.PrintLast Go.Proofs.YtahoibanpplhbaaW.PrintMore
def maxN : Int := 4611686018427387903
/-- the loop's answer from a place on -/
def run (n : Int) (over : Bool) (l : List Int) : Int × Int := if l.all isDig = false then (0, 3) else if over = true ∨ fval n l > maxN then (0, 9) else (fval n l, 0)
end Go.Proofs.Ytahoibanpplhbaa.Pure
namespace Go.Proofs.Ytahoibanpplhbaa.Pure
open Go.RowKit Go.Proofs.Ytahoibanpplhbaa.PAll Go.Proofs.YtahoibanpplhbaaW.PrintWords Go.Proofs.YtahoibanpplhbaaW.PrintLast Go.Proofs.YtahoibanpplhbaaW.PrintMore
def isBl (b : Int) : Bool := b == 32 || b == 9
def ltrim (l : List Int) : List Int := l.dropWhile isBl
def rtrim (l : List Int) : List Int := (l.reverse.dropWhile isBl).reverse
def trim (l : List Int) : List Int := ltrim (rtrim l)
theorem blank_eq (b : Int) : text_blank.f b = some (isBl b) := by
  unfold text_blank.f isBl; by_cases h : b = 32 <;> simp [h]
theorem rtrim_snoc (l : List Int) (b : Int) : rtrim (l ++ [b]) = if isBl b then rtrim l else l ++ [b] := by
  unfold rtrim
  rw [List.reverse_append, List.reverse_singleton, List.singleton_append, List.dropWhile_cons]
  by_cases h : isBl b = true
  · rw [if_pos h, if_pos h]
  · rw [if_neg h, if_neg h]; simp
theorem rtrim_nil : rtrim [] = [] := rfl
theorem ltrim_cons (l : List Int) (b : Int) : ltrim (b :: l) = if isBl b then ltrim l else b :: l := by
  unfold ltrim; rw [List.dropWhile_cons]
theorem right_loop (s : ByteArray) (hs : s.size ≤ 9223372036854775806) (d : Nat) : ∀ i : Int, 0 ≤ i → i ≤ s.size → i = d →
    Ev (fun k => text_Right.l0 k s i) (strOfNums (rtrim ((bytesOf s).take i.toNat))) := by
  induction d with
  | zero =>
    intro i h0 h1 hd
    refine Ev.pos (fun k => ?_)
    simp only [text_Right.l0]
    rw [if_neg (by omega), if_pos h0, if_pos h1, ext_str]
    subst hd; rfl
  | succ d ih =>
    intro i h0 h1 hd
    have hw : wrap64 (i - 1) = i - 1 := wrap_id (by omega)
    have ht := bytes_take s (i - 1) (by omega) (by omega)
    have e1 : i - 1 + 1 = i := by omega
    rw [e1] at ht
    rw [ht, rtrim_snoc, ← ht]
    by_cases hb : isBl (bt s (i - 1)) = true
    · rw [if_pos hb]
      refine Ev.step (fun k => ?_) (ih (i - 1) (by omega) (by omega) (by omega))
      simp only [text_Right.l0, hw, blank_eq, Option.bind_some]
      rw [if_pos (by omega), if_pos (by omega), if_pos (by omega), if_pos hb]
    · rw [if_neg hb]
      refine Ev.pos (fun k => ?_)
      simp only [text_Right.l0, hw, blank_eq, Option.bind_some]
      rw [if_pos (by omega), if_pos (by omega), if_pos (by omega), if_neg hb, if_pos h0, if_pos h1, ext_str]
      rfl
theorem right_ev (s : ByteArray) (hs : s.size ≤ 9223372036854775806) : Ev (fun k => text_Right.f k s) (strOfNums (rtrim (bytesOf s))) := by
  have := right_loop s hs s.size s.size (by omega) (by omega) rfl
  rw [Int.toNat_natCast, take_size] at this
  exact this
theorem left_loop (s : ByteArray) (hs : s.size ≤ 9223372036854775806) (d : Nat) : ∀ i : Int, 0 ≤ i → i ≤ s.size → (s.size : Int) - i = d →
    Ev (fun k => text_Trim.l0 k s i) (strOfNums (ltrim ((bytesOf s).drop i.toNat))) := by
  induction d with
  | zero =>
    intro i h0 h1 hd
    refine Ev.pos (fun k => ?_)
    have hz : (bytesOf s).drop i.toNat = [] := List.drop_of_length_le (by rw [bytesOf_length]; omega)
    simp only [text_Trim.l0]
    rw [if_neg (by omega), if_pos h0, if_pos h1, ext_str, take_size, hz]
    rfl
  | succ d ih =>
    intro i h0 h1 hd
    have hi : i < s.size := by omega
    have hdr := bytes_drop s i h0 hi
    rw [hdr, ltrim_cons, ← hdr]
    by_cases hb : isBl (bt s i) = true
    · rw [if_pos hb]
      refine Ev.step (fun k => ?_) (ih (i + 1) (by omega) (by omega) (by omega))
      simp only [text_Trim.l0, blank_eq, Option.bind_some]
      rw [if_pos hi, if_pos h0, if_pos hb, wrap_id (by omega)]
    · rw [if_neg hb]
      refine Ev.pos (fun k => ?_)
      simp only [text_Trim.l0, blank_eq, Option.bind_some]
      rw [if_pos hi, if_pos h0, if_neg hb, if_pos h1, ext_str, take_size]
theorem dropWhile_len (p : Int → Bool) (l : List Int) : (l.dropWhile p).length ≤ l.length := (List.dropWhile_sublist p).length_le
theorem rtrim_len (l : List Int) : (rtrim l).length ≤ l.length := by
  unfold rtrim
  rw [List.length_reverse]
  exact Nat.le_trans (dropWhile_len _ _) (by rw [List.length_reverse]; omega)
theorem ltrim_len (l : List Int) : (ltrim l).length ≤ l.length := dropWhile_len _ _
theorem trim_len (l : List Int) : (trim l).length ≤ l.length := Nat.le_trans (ltrim_len _) (rtrim_len _)
theorem rtrim_mem {l : List Int} {b : Int} (h : b ∈ rtrim l) : b ∈ l := by
  unfold rtrim at h
  exact List.mem_reverse.1 ((List.dropWhile_sublist isBl).mem (List.mem_reverse.1 h))
theorem ltrim_mem {l : List Int} {b : Int} (h : b ∈ ltrim l) : b ∈ l := (List.dropWhile_sublist isBl).mem h
theorem trim_mem {l : List Int} {b : Int} (h : b ∈ trim l) : b ∈ l := rtrim_mem (ltrim_mem h)
theorem trim_ev (s : ByteArray) (hs : s.size ≤ 9223372036854775806) : Ev (fun k => text_Trim.f k s) (strOfNums (trim (bytesOf s))) := by
  refine Ev.bind (f := fun k t => text_Trim.l0 k t 0) (right_ev s hs) ?_
  have hl : (rtrim (bytesOf s)).length ≤ s.size := by have := rtrim_len (bytesOf s); rwa [bytesOf_length] at this
  have := left_loop (strOfNums (rtrim (bytesOf s))) (by rw [size_str]; omega) (rtrim (bytesOf s)).length 0 (by omega) (by omega) (by rw [size_str]; omega)
  rw [bytesOf_str _ (fun b hb => bytesOf_isB s b (rtrim_mem hb))] at this
  exact this
end Go.Proofs.Ytahoibanpplhbaa.Pure

