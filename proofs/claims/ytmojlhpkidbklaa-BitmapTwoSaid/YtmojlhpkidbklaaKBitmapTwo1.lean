/- The law BitmapTwo: for every input the call returns true, and each argument reads behind the call as it read before. No condition. (The row, and the plain law ahead of it.) -/
import Derived.Test.YtmojlhpkidbklaaKBitmapTwo0
import Derived.WalkKit
import Derived.ProofKit
import Derived.OpenShut
import Derived.ShutString
import Derived.ChangeOld
import Derived.Below
import Derived.SizedLaws
import Derived.Lib.SmallJoins
import Derived.Lib.Bytealg
import Derived.Laws.StandIn
import Derived.Lib.ConvBytes
import Derived.Laws.BytesArg
import Derived.Test.YtmojlhpkidbklaaProg
import Derived.WalkMore
import Derived.Laws.Cover1
import Derived.LoopTactic
import Derived.Lib.Hide
import Derived.Tactics
import Derived.KernelRfl
import Derived.Laws.Rows
import Derived.Laws.IdiomCopy
import Derived.Laws.CopyOwn
import Derived.Deep.LoopGhost
import Derived.Lib.SliceRun
import Derived.Deep.Draws
import Derived.Deep.AppendLies
import Derived.Maps.AppendAt
import Derived.OwnWalk
import Derived.Laws.MakeOwn
import Derived.Laws.OwnMore
import Derived.Deep.OwnRows
import Derived.Laws.Slices
import Derived.RowKit3
import Derived.Deep.QuietTactic
import Derived.BigQuiet
import Derived.WideLaws
import Derived.Deep.DeepCutAuto
import Derived.Deep.CutBlock
import Derived.Deep.RegionHeld3
import Derived.Lib.AppendStr
import Derived.ArgAppend
import Derived.OrdersHeld
import Derived.Laws.BitsLemmas
import Derived.RowKit
import Derived.ChangeKeysEq
import Derived.Laws.StructEq
import Derived.Deep.MidRow
import Derived.Deep.DrawnRows
import Derived.Test.YtmojlhpkidbklaaRows
namespace Go.Proofs.Ytmojlhpkidbklaa.Rd
open Go.RowKit Go.ChangeShapes Go.WideShapes Go.ChangeAt Go.Proofs.YtmojlhpkidbklaaW.PrintWords
set_option linter.unusedVariables false
set_option linter.unusedSimpArgs false
def Opens {α : Type} (P : Program) (t : TypeId) (d : Kd α) (ok : α → Prop) : Prop :=
  ∀ (H : Type) (enc : TypeId × Value → H) (W : World) (spare : Nat → Bool) (held : Bool) (fuel : Nat) (cs : List Value) (x : DataW H × List MemPlace),
    DataW.trod enc P W 0 spare held fuel t cs = some x → ∃ a, d.K W a cs ∧ ok a
section
variable {P : Program} {t e : TypeId} {α β : Type}
theorem opens_int {k : IntKind} (hu : P.underlying t = some (.int k)) : Opens P t (Kd.int k) (fun n => (Lit.int k n).wf = true) := by
  intro H enc W spare held fuel cs x h
  obtain ⟨n, rfl, _, hw⟩ := DataW.trod_int hu h
  exact ⟨n, rfl, hw⟩
theorem listed (Q : Nat → α → Prop) : ∀ n, (∀ i, i < n → ∃ a, Q i a) → ∃ l : List α, l.length = n ∧ ∀ i a, l[i]? = some a → Q i a
  | 0, _ => ⟨[], rfl, fun i a h => by simp at h⟩
  | n + 1, h => by
    obtain ⟨l, hl, hq⟩ := listed Q n (fun i hi => h i (by omega))
    obtain ⟨a, ha⟩ := h n (by omega)
    refine ⟨l ++ [a], by simp [hl], fun i b hb => ?_⟩
    by_cases hi : i < l.length
    · rw [List.getElem?_append_left hi] at hb
      exact hq i b hb
    · have : i < (l ++ [a]).length := (List.getElem?_eq_some_iff.1 hb).1
      have hi2 : i = l.length := by simp at this; omega
      subst hi2
      simp at hb
      subst hb
      rw [hl]; exact ha
/-- A slice, opened: its elements are of the kind. -/
theorem open_elems {H : Type} {enc : TypeId × Value → H} {W : World} {spare : Nat → Bool} {held : Bool} {fuel : Nat} {cs : List Value} {x : DataW H × List MemPlace} {d : Kd α} {ok : α → Prop}
    (hu : P.underlying t = some (.slice e)) (he : Opens P e d ok) (hc : P.cellsOf e = d.sz) (h : DataW.trod enc P W 0 spare held fuel t cs = some x) :
    ∃ A c, ∃ l : List α, cs = [.slice A l.length c] ∧ l.length ≤ c ∧ d.C W A l.length l ∧ (∀ y ∈ l, ok y) ∧
      (l = [] ∨ ∃ elems rest, x.1 = .slice elems rest ∧ elems.length = l.length) := by
  rcases DataW.trod_slice hu h with ⟨rfl, rfl⟩ | ⟨a, len, cap, elems, rest, n, rfl, rfl, rfl, hb, hl, hm, hlen, hel, _⟩
  · exact ⟨none, 0, [], rfl, Nat.le_refl _, ⟨rfl, by simp, fun h => by simp at h⟩, by simp, .inl rfl⟩
  · obtain ⟨l, hll, hq⟩ := listed (fun i y => ok y ∧ ∃ c, W.cells? 0 (a.add (i * d.sz)) d.sz = some c ∧ d.K W y c) len (fun i hi => by
      have h1 := hel i hi
      have hi' : i < elems.length := by omega
      rw [List.getElem?_eq_getElem hi', hc] at h1
      obtain ⟨c, hc1, hc2⟩ := Option.bind_eq_some_iff.1 h1
      obtain ⟨y, hy, hoy⟩ := he H enc W spare held n c _ hc2
      exact ⟨y, hoy, c, hc1, hy⟩)
    subst hll
    refine ⟨some a, cap, l, rfl, hl, ⟨rfl, by unfold maxLen at hm; omega, fun _ => ⟨a, rfl, fun j p hj => ?_⟩⟩, fun y hy => ?_, .inr ⟨_, _, rfl, by simpa using hlen⟩⟩
    · obtain ⟨_, c, hc1, hk⟩ := hq j p hj
      obtain ⟨_, hcl, hcell⟩ := World.cells?_some hc1
      refine ⟨c, hcl, hk, fun i u hu => ?_⟩
      rw [← Addr.add_add]
      have hi : i < d.sz := by rw [← hcl]; exact (List.getElem?_eq_some_iff.1 hu).1
      rw [hcell i hi]
      exact hu
    · obtain ⟨i, hi⟩ := List.mem_iff_getElem?.1 hy
      exact (hq i y hi).1
/-- A parameter that is a slice. -/
theorem open_row {H : Type} {enc : TypeId × Value → H} {W : World} {spare : Nat → Bool} {held : Bool} {v : Value} {dd : DataW H} {ps : List MemPlace} {d : Kd α} {ok : α → Prop} {r : Reach} {b0 : Nat}
    (hu : P.underlying t = some (.slice e)) (he : Opens P e d ok) (hc : P.cellsOf e = d.sz) (hv : Value.okWide P W r b0 t v) (h : DataW.Trod enc P W 0 spare held t v dd ps)
    {ts : List TypeId} {ds : List (DataW H)} {j : Nat} (hsz : (DataW.weightsEach P ts ds).all (· ≤ reachBytes) = true) (ht : ts[j]? = some t) (hd : ds[j]? = some dd) {B : Nat} (hB : P.bytesOf e = B) :
    ∃ A c, ∃ l : List α, v = .slice A l.length c ∧ l.length ≤ c ∧ d.C W A l.length l ∧ (∀ y ∈ l, ok y) ∧ l.length * B ≤ 140737488351232 := by
  obtain ⟨a, len, cap, rfl⟩ := okWide_slice hu hv
  obtain ⟨fuel, hf⟩ := h
  obtain ⟨A, c, l, hcs, hl, hC, hok, hx⟩ := open_elems hu he hc hf
  simp [Value.cells] at hcs
  obtain ⟨rfl, rfl, rfl⟩ := hcs
  refine ⟨_, _, l, rfl, hl, hC, hok, ?_⟩
  rcases hx with rfl | ⟨elems, rest, hx, hlen⟩
  · simp
  · simp only at hx
    subst hx
    have z := sized_slice hsz ht hd hu
    rw [hB] at z
    rw [← hlen]
    exact Nat.le_trans (Nat.mul_le_mul_right _ (Nat.le_add_right _ _)) (by simpa [reachBytes] using z)
end
end Go.Proofs.Ytmojlhpkidbklaa.Rd
namespace Go.Proofs.Ytmojlhpkidbklaa.Xw
open Go.RowKit Go.Proofs.YtmojlhpkidbklaaW.PrintWords
theorem ne_empty (l : List UInt8) : Ending.returned (Value.bool !l.isEmpty) = Ending.returned (Value.bool (l != [])) := by cases l <;> rfl
theorem eq_empty (l : List UInt8) : Ending.returned (Value.bool l.isEmpty) = Ending.returned (Value.bool (l == [])) := by cases l <;> rfl
def lowI (x : Int) : Int := if 65 ≤ x ∧ x ≤ 90 then x - 65 + 97 else x
def lowAt (s : ByteArray) (k j : Nat) : Int := if j < k then lowI (bt s j) else bt s j
structure LowIn (s : ByteArray) (g : Nat) (k : Nat) (w wr : World) : Prop where
  cells : ∀ j, j < s.size → wr.cell? ⟨g, j, none⟩ = some (.int .u8 (lowAt s k j))
  free : ∀ j, j < s.size → wr.frozen? ⟨g, j, none⟩ = false
  below : Below w.heap.size w wr
end Go.Proofs.Ytmojlhpkidbklaa.Xw
namespace Go.Proofs.Ytmojlhpkidbklaa.Ag
open Go.RowKit Go.Proofs.Ytmojlhpkidbklaa.Xw Go.Proofs.YtmojlhpkidbklaaW.PrintWords Go.Proofs.YtmojlhpkidbklaaW.PrintLast Go.Proofs.YtmojlhpkidbklaaW.PrintMore
def agC (k : IntKind) (n : Nat) (f : Nat → Int) : Array Value := ((List.range n).map fun i => Value.int k (f i)).toArray
theorem agC_size (k n f) : (agC k n f).size = n := by simp [agC]
theorem agC_get (k n f) (i : Nat) (h : i < n) : (agC k n f)[i]? = some (.int k (f i)) := by simp [agC, h]
theorem agC_one (k n f) : (agC k n f).all (·.oneCell') = true := by
  rw [Array.all_eq_true_iff_forall_mem]
  intro x hx
  simp only [agC, List.mem_toArray, List.mem_map] at hx
  obtain ⟨i, _, rfl⟩ := hx
  rfl
theorem alloc_size (w : World) (o : Obj) : (w.alloc o).heap.size = w.heap.size + 1 := by
  unfold World.alloc
  exact Array.size_push _
def putF (f : Nat → Int) (q : Nat) (v : Int) : Nat → Int := fun j => if j = q then v else f j
theorem agC_set (k n f) (q : Nat) (v : Int) : (agC k n f).setIfInBounds q (.int k v) = agC k n (putF f q v) := by
  apply Array.ext
  · simp [agC]
  · intro i h1 h2
    simp only [agC, putF, List.getElem_toArray, List.getElem_map, List.getElem_range]
    by_cases hq : q = i
    · subst hq; simp
    · have : ¬ i = q := fun e => hq e.symm
      simp [hq, this]
theorem cell_new (w : World) (f : Nat → Int) (k : IntKind) (n t j : Nat) (h : j < n) : (w.alloc (Obj.cells (agC k n f) t)).cell? ⟨w.heap.size, j, none⟩ = some (.int k (f j)) := by
  have := blk_cell (blk_new w (.cells (agC k n f) t (0, 0))) j
  rw [agC_get k n f j h] at this
  exact this
section
variable {P : Program} {ops : Array Oper} {rest : List Oper} {o : Oper} {a : Act} {Q : Exit → Act → World → Prop} {W : World}
theorem ag_gate {t : TypeId} {x : Operand} (_ho : o.op = .load t x) (h : wpList P ops Q (o :: rest) a W) : wpList P ops Q (o :: rest) a W := h
/-- a whole variable, read -/
theorem row_load (hgd : o.guard = none) (ty : TypeId) (x : Operand) (ho : o.op = .load ty x) (g : Nat) (hx : a.eval x = .pointer (some ⟨g, 0, none⟩)) (k : IntKind) (n : Nat) (f : Nat → Int) (t : TypeId) (d : TypeDesc)
    (hg : W.heap[g]? = some (.cells (agC k n f) t (0, 0))) (hu : P.underlying ty = some d) (hd : (match d with | .struct _ | .array _ _ => true | _ => false) = true) (hi : (P.info? ty).map (·.size) = some n)
    (h : wpList P ops Q rest (a.put o.dst (.agg (agC k n f))) W) : wpList P ops Q (o :: rest) a W :=
  wpList_load_row hgd ty x ho g hx t (agC k n f) (0, 0) d hg hu hd (by rw [hi, agC_size]) h
/-- a whole variable, written -/
theorem row_store (hgd : o.guard = none) (ty : TypeId) (x y : Operand) (ho : o.op = .store ty x y) (hN : o.dst = none) (g : Nat) (hx : a.eval x = .pointer (some ⟨g, 0, none⟩)) (k : IntKind) (n : Nat) (f : Nat → Int) (hy : a.eval y = .agg (agC k n f))
    (old : Array Value) (t : TypeId) (hg : W.heap[g]? = some (.cells old t (0, 0))) (hi : (P.info? ty).map (·.size) = some n) (ho' : old.size = n)
    (h : ∀ w1, w1.heap[g]? = some (.cells (agC k n f) t (0, 0)) → (∀ j, j ≠ g → w1.heap[j]? = W.heap[j]?) → (∀ B w0, Below B w0 W → B ≤ g → Below B w0 w1) → wpList P ops Q rest a w1) : wpList P ops Q (o :: rest) a W := by
  refine wpList_plain hgd fun K hK => ?_
  unfold Oper.wp execOp
  simp only [ho, hx, hy, Instr.storeAt, Instr.sureAddr, Sem.run_bind, Sem.run_pure, Result.andThen_ok, run_storeVar_row W g t ty old (agC k n f) hg (by rw [hi, agC_size]) (by rw [ho', agC_size]) (agC_one k n f)]
  have e : a.put o.dst undef = a := by rw [hN]; rfl
  show K (a.put o.dst undef) (W.setRow g (agC k n f))
  rw [e]
  exact hK _ _ (h _ (setRow_heap W g old (agC k n f) t (0, 0) hg) (fun j hj => setRow_other W g j _ hj) (fun B w0 hb hB => below_setRow hb hB _))
end
end Go.Proofs.Ytmojlhpkidbklaa.Ag
namespace Go.Proofs.Ytmojlhpkidbklaa.Ag
open Go.RowKit Go.Proofs.Ytmojlhpkidbklaa.Xw Go.Proofs.YtmojlhpkidbklaaW.PrintWords Go.Proofs.YtmojlhpkidbklaaW.PrintLast Go.Proofs.YtmojlhpkidbklaaW.PrintMore
theorem info_map : (Try.prog.info? 44).map (·.size) = some 65 := by kernel_rfl
theorem zero_map : Try.zeroCells44 = agC .u64 65 (fun _ => 0) := by kernel_rfl
set_option maxHeartbeats 4000000 in
set_option maxRecDepth 100000 in
theorem may_calls (i : Int) (w : World) : Calls Try.prog 59 #[.int .i64 i] w fun e w' => e = .returned (.bool (decide (0 ≤ i ∧ i ≤ 4096))) ∧ w' = w := by
  by_cases h1 : 0 ≤ i
  · have c1 : decide (i ≥ 0) = true := decide_eq_true h1
    by_cases h2 : i ≤ 4096
    · have c2 : decide (i ≤ 4096) = true := decide_eq_true h2
      rw [decide_eq_true ⟨h1, h2⟩]
      go_enter Try.func59, Try.ntmps59
      go_wp2
      all_goals (go_ret; exact ⟨rfl, rfl⟩)
    · have c2 : decide (i ≤ 4096) = false := decide_eq_false h2
      rw [decide_eq_false (fun h => h2 h.2)]
      go_enter Try.func59, Try.ntmps59
      go_wp2
      all_goals (go_ret; exact ⟨rfl, rfl⟩)
  · have c1 : decide (i ≥ 0) = false := decide_eq_false h1
    rw [decide_eq_false (fun h => h1 h.1)]
    go_enter Try.func59, Try.ntmps59
    go_wp2
    all_goals (go_ret; exact ⟨rfl, rfl⟩)
theorem qr (i : Int) (h0 : 0 ≤ i) (h1 : i ≤ 4096) : ∃ q r : Nat, Int.tdiv i 64 = q ∧ Int.tmod i 64 = r ∧ q < 65 ∧ r < 64 ∧ i = 64 * q + r := by
  obtain ⟨n, rfl⟩ : ∃ n : Nat, i = n := ⟨i.toNat, by omega⟩
  refine ⟨n / 64, n % 64, by rw [Int.tdiv_eq_ediv_of_nonneg (by omega)]; rfl, by rw [Int.tmod_eq_emod_of_nonneg (by omega)]; rfl, by omega, by omega, by omega⟩
def hasF (f : Nat → Int) (i : Int) : Bool := decide (0 ≤ i ∧ i ≤ 4096) && (bits .and .u64 (f (i.toNat / 64) / 2 ^ (i.toNat % 64)) 1 == 1)
def withF (f : Nat → Int) (i : Int) : Nat → Int := if 0 ≤ i ∧ i ≤ 4096 then putF f (i.toNat / 64) (bits .or .u64 (f (i.toNat / 64)) (IntKind.u64.wrap (2 ^ (i.toNat % 64)))) else f
set_option maxHeartbeats 4000000 in
set_option maxRecDepth 100000 in
theorem has_calls (f : Nat → Int) (i : Int) (w : World) : Calls Try.prog 31 #[.agg (agC .u64 65 f), .int .i64 i] w fun e w' => e = .returned (.bool (hasF f i)) ∧ Below w.heap.size w w' := by
  by_cases h : 0 ≤ i ∧ i ≤ 4096
  · have hm : decide (0 ≤ i ∧ i ≤ 4096) = true := decide_eq_true h
    obtain ⟨q, r, hq, hr, hq1, hr1, hi⟩ := qr i h.1 h.2
    have hc := cell_new w f .u64 65 44 q (by omega)
    have hv : hasF f i = (bits .and .u64 (f q / 2 ^ r) 1 == 1) := by
      have e1 : i.toNat / 64 = q := by omega
      have e2 : i.toNat % 64 = r := by omega
      unfold hasF; rw [hm, e1, e2, Bool.true_and]
    rw [hv]
    clear hi hv h
    go_enter Try.func31, Try.ntmps31
    go_wp2_with (fail)
    refine (may_calls i _).mono ?_
    rintro e w' ⟨rfl, rfl⟩
    rw [hm]
    dsimp only
    go_wp2_with (fail)
    go_ret
    exact ⟨rfl, below_alloc (Below.refl _ _) _⟩
  · have hm : decide (0 ≤ i ∧ i ≤ 4096) = false := decide_eq_false h
    have hv : hasF f i = false := by unfold hasF; rw [hm, Bool.false_and]
    rw [hv]
    clear hv h
    go_enter Try.func31, Try.ntmps31
    go_wp2_with (fail)
    refine (may_calls i _).mono ?_
    rintro e w' ⟨rfl, rfl⟩
    rw [hm]
    dsimp only
    go_wp2_with (fail)
    go_ret
    exact ⟨rfl, below_alloc (Below.refl _ _) _⟩
set_option maxHeartbeats 4000000 in
set_option maxRecDepth 100000 in
theorem with_calls (f : Nat → Int) (i : Int) (w : World) : Calls Try.prog 55 #[.agg (agC .u64 65 f), .int .i64 i] w fun e w' => e = .returned (.agg (agC .u64 65 (withF f i))) ∧ Below w.heap.size w w' := by
  have BK1 := blk_alloc (blk_new w (.cells (agC .u64 65 f) 44 (0, 0))) (.cells Try.zeroCells44 44 (0, 0))
  have BK2 := blk_new (w.alloc (.cells (agC .u64 65 f) 44 (0, 0))) (.cells Try.zeroCells44 44 (0, 0))
  have HB := below_alloc (below_alloc (Below.refl w.heap.size w) (.cells (agC .u64 65 f) 44 (0, 0))) (.cells Try.zeroCells44 44 (0, 0))
  rw [alloc_size] at BK2
  have BK1 := Aside0.mk BK1
  have BK2 := Aside0.mk BK2
  have HB := Aside0.mk HB
  by_cases h : 0 ≤ i ∧ i ≤ 4096
  · have hm : decide (0 ≤ i ∧ i ≤ 4096) = true := decide_eq_true h
    obtain ⟨q, r, hq, hr, hq1, hr1, hi⟩ := qr i h.1 h.2
    have hv : withF f i = putF f q (bits .or .u64 (f q) (IntKind.u64.wrap (2 ^ r))) := by
      have e1 : i.toNat / 64 = q := by omega
      have e2 : i.toNat % 64 = r := by omega
      unfold withF; rw [if_pos h, e1, e2]
    rw [hv]
    clear hi h hv
    generalize hf2 : putF f q (bits .or .u64 (f q) (IntKind.u64.wrap (2 ^ r))) = f2
    have hf2 := Aside0.mk hf2
    go_enter Try.func55, Try.ntmps55
    go_wp2_with (fail)
    refine (may_calls i _).mono ?_
    rintro e w' ⟨rfl, rfl⟩
    rw [hm]
    dsimp only
    go_wp2_with (fail)
    generalize (w.alloc (.cells (agC .u64 65 f) 44 (0, 0))).alloc (.cells Try.zeroCells44 44 (0, 0)) = w1 at BK1 BK2 HB ⊢
    have hc := blk_cell BK1.out q
    rw [agC_get _ _ _ _ hq1] at hc
    have hfz := blk_frozen BK1.out q
    go_region
    have BK3 := blk_drew (blk_set BK1.out q (Value.int IntKind.u64 (bits BinOp.or IntKind.u64 (f q) (IntKind.u64.wrap (2 ^ r)))))
    have BK4 := blk_drew (blk_far BK2.out (p := ⟨w.heap.size, q, none⟩) (by show w.heap.size + 1 ≠ w.heap.size; omega) (Value.int IntKind.u64 (bits BinOp.or IntKind.u64 (f q) (IntKind.u64.wrap (2 ^ r)))))
    have HB2 := below_drew (below_set (j := q) (v := Value.int IntKind.u64 (bits BinOp.or IntKind.u64 (f q) (IntKind.u64.wrap (2 ^ r)))) HB.out (Nat.le_refl _))
    rw [agC_set, hf2.out] at BK3
    generalize (w1.setCell ⟨w.heap.size, q, none⟩ (Value.int IntKind.u64 (bits BinOp.or IntKind.u64 (f q) (IntKind.u64.wrap (2 ^ r))))).drew = w2 at BK3 BK4 HB2 ⊢
    clear BK1 BK2 HB hc hfz
    have BK3 := Aside0.mk BK3
    have BK4 := Aside0.mk BK4
    have HB2 := Aside0.mk HB2
    go_wp2_with (first | ((with_reducible refine gate_dst (N := 18) rfl ?_); refine row_load rfl 44 (.tmp 2) rfl w.heap.size rfl .u64 65 f2 44 _ BK3.out Try.underlying44 rfl info_map ?_) | ((with_reducible refine gate_store (t := 44) (p := 4) rfl ?_); refine row_store rfl 44 (.tmp 4) (.tmp 18) rfl rfl (w.heap.size + 1) rfl .u64 65 f2 rfl _ 44 BK4.out info_map (by rw [zero_map, agC_size]) ?_; intro w3 BK5 BK6 HB3))
    refine bodyPost_ret (v := .agg (agC .u64 65 f2)) (results_cell_row (p := 4) (ty := 44) Try.results55 _ _ (w.heap.size + 1) 44 _ (0, 0) _ rfl BK5 Try.underlying44 rfl (by rw [info_map, agC_size])) rfl ⟨rfl, HB3 _ _ HB2.out (by omega)⟩
  · have hm : decide (0 ≤ i ∧ i ≤ 4096) = false := decide_eq_false h
    have hv : withF f i = f := by unfold withF; rw [if_neg h]
    rw [hv]
    clear hv h
    go_enter Try.func55, Try.ntmps55
    go_wp2_with (fail)
    refine (may_calls i _).mono ?_
    rintro e w' ⟨rfl, rfl⟩
    rw [hm]
    dsimp only
    generalize (w.alloc (.cells (agC .u64 65 f) 44 (0, 0))).alloc (.cells Try.zeroCells44 44 (0, 0)) = w2 at BK1 BK2 HB ⊢
    have BK3 := BK1
    have BK4 := BK2
    have HB2 := HB
    clear BK1 BK2 HB
    go_wp2_with (first | ((with_reducible refine gate_dst (N := 18) rfl ?_); refine row_load rfl 44 (.tmp 2) rfl w.heap.size rfl .u64 65 f 44 _ BK3.out Try.underlying44 rfl info_map ?_) | ((with_reducible refine gate_store (t := 44) (p := 4) rfl ?_); refine row_store rfl 44 (.tmp 4) (.tmp 18) rfl rfl (w.heap.size + 1) rfl .u64 65 f rfl _ 44 BK4.out info_map (by rw [zero_map, agC_size]) ?_; intro w3 BK5 BK6 HB3))
    refine bodyPost_ret (v := .agg (agC .u64 65 f)) (results_cell_row (p := 4) (ty := 44) Try.results55 _ _ (w.heap.size + 1) 44 _ (0, 0) _ rfl BK5 Try.underlying44 rfl (by rw [info_map, agC_size])) rfl ⟨rfl, HB3 _ _ HB2.out (by omega)⟩
def zeroF : Nat → Int := fun _ => 0
theorem foldl_snoc {α β : Type} (f : β → α → β) (b : β) (l : List α) (k : Nat) (h : k < l.length) : (l.take (k + 1)).foldl f b = f ((l.take k).foldl f b) l[k] := by
  rw [List.take_succ_eq_append_getElem h, List.foldl_append]; rfl
set_option maxHeartbeats 4000000 in
set_option maxRecDepth 100000 in
theorem of_calls (A0 : Option Addr) (c0 : Nat) (l0 : List Int) (w : World) (hr0 : Kd.C (Kd.int .i64) w A0 l0.length l0) (_hc0 : l0.length ≤ c0) :
    Calls Try.prog 26 #[.slice A0 l0.length c0] w fun e w' => e = .returned (.agg (agC .u64 65 (l0.foldl withF zeroF))) ∧ Below w.heap.size w w' := by
  have hb0 : l0.length ≤ 9223372036854775807 := by have := hr0.2.1; unfold maxLen at this; omega
  have BK1 := blk_alloc (blk_new w (.cells Try.zeroCells44 44 (0, 0))) (.cells Try.zeroCells44 44 (0, 0))
  have BK2 := blk_new (w.alloc (.cells Try.zeroCells44 44 (0, 0))) (.cells Try.zeroCells44 44 (0, 0))
  have HB := below_alloc (below_alloc (Below.refl w.heap.size w) (.cells Try.zeroCells44 44 (0, 0))) (.cells Try.zeroCells44 44 (0, 0))
  rw [alloc_size] at BK2
  have BK1 := Aside0.mk BK1
  have BK2 := Aside0.mk BK2
  have HB := Aside0.mk HB
  have HR := Aside0.mk hr0
  clear hr0 _hc0
  have hfin : l0.foldl withF zeroF = (l0.take l0.length).foldl withF zeroF := by rw [List.take_length]
  rw [hfin]
  clear hfin
  obtain ⟨f9, hf9⟩ : ∃ f9, (l0.take l0.length).foldl withF zeroF = f9 := ⟨_, rfl⟩
  rw [hf9]
  have hf9 := Aside0.mk hf9
  go_enter Try.func26, Try.ntmps26
  go_wp2_with (fail)
  generalize (w.alloc (.cells Try.zeroCells44 44 (0, 0))).alloc (.cells Try.zeroCells44 44 (0, 0)) = w1 at BK1 BK2 HB ⊢
  go_loopg [5, 8] l0.length (fun gg _ s8 wr => ∃ kk : Nat, kk ≤ l0.length ∧ l0.length - kk ≤ gg ∧ s8 = .int .i64 kk ∧ Aside0 (Below w.heap.size w wr) ∧ Aside0 (wr.heap[w.heap.size]? = some (.cells Try.zeroCells44 44 (0, 0))) ∧ Aside0 (wr.heap[w.heap.size + 1]? = some (.cells (agC .u64 65 ((l0.take kk).foldl withF zeroF)) 44 (0, 0))))
  case atStart => exact ⟨0, Nat.zero_le _, by omega, rfl, HB, BK1, ⟨by rw [BK2.out, zero_map]; rfl⟩⟩
  case round =>
    clear BK1 BK2 HB
    obtain ⟨kk, hkk, hg, rfl, HB, BK1, BK2⟩ := hrel
    by_cases hlt : kk < l0.length
    · have hltz : (kk : Int) < (l0.length : Int) := by omega
      obtain ⟨ad, e1, hx⟩ := Kd.at_int (Kd.C_below HR.out HB.out) (kk : Int) (by omega) hltz
      cases e1
      simp only [Int.toNat_natCast] at hx
      have hcall := with_calls ((l0.take kk).foldl withF zeroF) (rd l0 kk) wr
      have hnx : (l0.take (kk + 1)).foldl withF zeroF = withF ((l0.take kk).foldl withF zeroF) (rd l0 kk) := by
        rw [foldl_snoc _ _ _ _ hlt]
        congr 1
        unfold rd
        simp [List.getD_eq_getElem?_getD, List.getElem?_eq_getElem hlt]
      generalize (l0.take kk).foldl withF zeroF = f at BK2 hcall hnx
      have hnx := Aside0.mk hnx
      have hcall := Aside0.mk hcall
      go_wp2_with (first | ((with_reducible refine gate_dst (N := 12) rfl ?_); refine row_load rfl 44 (.tmp 3) rfl (w.heap.size + 1) rfl .u64 65 f 44 _ BK2.out Try.underlying44 rfl info_map ?_))
      refine hcall.out.mono ?_
      rintro e w2 ⟨rfl, hb⟩
      dsimp only
      have BK3 := Aside0.mk (blk_below BK1.out hb)
      have BK4 := Aside0.mk (blk_below BK2.out hb)
      have HB2 := Aside0.mk (below_step HB.out hb)
      clear BK1 BK2 HB hcall hb hx HR
      go_wp2_with (first | ((with_reducible refine gate_store (t := 44) (p := 3) rfl ?_); refine row_store rfl 44 (.tmp 3) (.tmp 14) rfl rfl (w.heap.size + 1) rfl .u64 65 (withF f (rd l0 kk)) rfl _ 44 BK4.out info_map (agC_size _ _ _) ?_; intro w3 BK5 BK6 HB3; have BK5 := Aside0.mk BK5; have BK6 := Aside0.mk BK6; have HB3 := Aside0.mk HB3))
      go_roundg (l0.length - (kk + 1))
      case measure => omega
      case rel => exact ⟨kk + 1, by omega, by omega, by go_num, ⟨HB3.out _ _ HB2.out (by omega)⟩, ⟨(BK6.out _ (by omega)).trans BK3.out⟩, ⟨by rw [BK5.out, hnx.out]⟩⟩
    · have hltz : ¬ (kk : Int) < (l0.length : Int) := by omega
      obtain rfl : kk = l0.length := by omega
      clear hg hkk HR hlt
      have BK3 := Aside0.mk (show wr.heap[w.heap.size + 1]? = some (.cells (agC .u64 65 f9) 44 (0, 0)) by rw [← hf9.out]; exact BK2.out)
      clear BK2
      go_wp2_with (first | ((with_reducible refine gate_dst (N := 16) rfl ?_); refine row_load rfl 44 (.tmp 3) rfl (w.heap.size + 1) rfl .u64 65 f9 44 _ BK3.out Try.underlying44 rfl info_map ?_) | ((with_reducible refine gate_store (t := 44) (p := 2) rfl ?_); refine row_store rfl 44 (.tmp 2) (.tmp 16) rfl rfl w.heap.size rfl .u64 65 f9 rfl _ 44 BK1.out info_map (by rw [zero_map, agC_size]) ?_; intro w3 BK5 BK6 HB3))
      refine bodyPost_ret (v := .agg (agC .u64 65 f9)) (results_cell_row (p := 2) (ty := 44) Try.results26 _ _ w.heap.size 44 _ (0, 0) _ rfl BK5 Try.underlying44 rfl (by rw [info_map, agC_size])) rfl ⟨rfl, HB3 _ _ HB.out (Nat.le_refl _)⟩
end Go.Proofs.Ytmojlhpkidbklaa.Ag
namespace Go.Proofs.Ytmojlhpkidbklaa.Ag
open Go.RowKit Go.Proofs.Ytmojlhpkidbklaa.Xw Go.Proofs.YtmojlhpkidbklaaW.PrintWords Go.Proofs.YtmojlhpkidbklaaW.PrintLast Go.Proofs.YtmojlhpkidbklaaW.PrintMore
set_option maxHeartbeats 4000000 in
set_option maxRecDepth 100000 in
theorem clip_calls (A : Option Addr) (n c : Nat) (hn : n ≤ c) (hA : A = none → n = 0) (w : World) : Calls Try.prog 54 #[.slice A n c] w fun e w' => e = .returned (.slice A n n) ∧ w' = w := by
  cases A with
  | none =>
    obtain rfl := hA rfl
    go_enter Try.func54, Try.ntmps54
    go_wp2_with (fail)
    go_ret
    exact ⟨rfl, rfl⟩
  | some ad =>
    clear hA
    go_enter Try.func54, Try.ntmps54
    go_wp2_with (fail)
    go_ret
    exact ⟨rfl, rfl⟩
end Go.Proofs.Ytmojlhpkidbklaa.Ag
namespace Go.Proofs.Ytmojlhpkidbklaa.PAll
open Go.RowKit Go.Proofs.Ytmojlhpkidbklaa.Xw Go.Proofs.YtmojlhpkidbklaaW.PrintWords Go.Proofs.YtmojlhpkidbklaaW.PrintLast Go.Proofs.YtmojlhpkidbklaaW.PrintMore
attribute [local go_sem] max2_int min2_int max_two min_two max_three min_three max_four min_four   -- for this text's walks alone
set_option linter.unusedVariables false
set_option linter.unusedSimpArgs false
def errW : Option Int → Value
  | none => .nilIface
  | some c => .iface 0 (.int .i64 c)
theorem errW_none : errW none = .nilIface := rfl
theorem errW_some (c : Int) : errW (some c) = .iface 0 (.int .i64 c) := rfl
theorem info86 : (Try.prog.info? 86).map (fun i => (i.zero, i.size, i.bytes)) = some (some (.agg #[(.int .i64 0), (.int .i64 0), (.bool false)]), 3, 24) := by kernel_rfl
structure S86 where
  f0 : Int
  f1 : Int
  f2 : Bool
def z86 : S86 := ⟨(0 : Int), (0 : Int), false⟩
def k86 : Kd S86 := Kd.iso (Kd.pair (Kd.int .i64) (Kd.pair (Kd.int .i64) Kd.bool)) (fun x : S86 => (x.f0, x.f1, x.f2))
theorem k86_open {w : World} {x : S86} {cs : List Value} (h : k86.K w x cs) : cs = [.int .i64 x.f0, .int .i64 x.f1, .bool x.f2] := by
  obtain ⟨_, _, rfl, rfl, ⟨_, _, rfl, rfl, rfl⟩⟩ := h
  exact rfl
theorem k86_openM {w : World} {base : Nat} {ok : Nat → Prop} {x : S86} {cs : List Value} (h : k86.M w base ok x cs) : cs = [.int .i64 x.f0, .int .i64 x.f1, .bool x.f2] := by
  obtain ⟨_, _, rfl, rfl, ⟨_, _, rfl, rfl, rfl⟩⟩ := h
  exact rfl
theorem k86_mkM (w : World) (base : Nat) (ok : Nat → Prop) (x : S86)  : k86.M w base ok x [.int .i64 x.f0, .int .i64 x.f1, .bool x.f2] := ⟨[.int .i64 x.f0], [.int .i64 x.f1, .bool x.f2], rfl, rfl, ⟨[.int .i64 x.f1], [.bool x.f2], rfl, rfl, rfl⟩⟩
def rd_T86 (xs : List S86) (i : Int) : S86 := xs.getD i.toNat z86
theorem at_T86 {w : World} {A : Option Addr} {n : Nat} {xs : List S86} (h : Kd.C k86 w A n xs) (i : Int) (h0 : 0 ≤ i) (h1 : i < n) : ∃ ad , A = some ad ∧ w.cell? (ad.add (i.toNat * 3)) = some (.int .i64 (rd_T86 xs i).f0) ∧ w.cell? ⟨(ad.add (i.toNat * 3)).block, (ad.add (i.toNat * 3)).off + 1, none⟩ = some (.int .i64 (rd_T86 xs i).f1) ∧ w.cell? ⟨(ad.add (i.toNat * 3)).block, (ad.add (i.toNat * 3)).off + 2, none⟩ = some (.bool (rd_T86 xs i).f2) := by
  obtain ⟨ad, c, e, _, hK, hc0⟩ := Kd.C_get h z86 i h0 h1
  have hc : ∀ j u, c[j]? = some u → w.cell? (ad.add (i.toNat * 3 + j)) = some u := hc0
  obtain rfl := k86_open hK
  exact ⟨ad, e, hc 0 _ rfl, by rw [← add_field _ _ 1 (by omega)]; exact hc 1 _ rfl, by rw [← add_field _ _ 2 (by omega)]; exact hc 2 _ rfl⟩
structure S35 where
  f0 : Int
  f1 : Int
structure S72 where
  f0 : Int
  f1 : Int
  f2 : Int
theorem fld35_1 (c0 c1 : Value) (W : World) : (Instr.field 35 (.agg #[c0, c1]) 1).run Try.prog W = .ok (c1) W := by kernel_rfl
attribute [go_sem] fld35_1
end Go.Proofs.Ytmojlhpkidbklaa.PAll
namespace Go.Proofs.Ytmojlhpkidbklaa.PAll
open Go.RowKit Go.Proofs.Ytmojlhpkidbklaa.Xw Go.Proofs.YtmojlhpkidbklaaW.PrintWords Go.Proofs.YtmojlhpkidbklaaW.PrintLast Go.Proofs.YtmojlhpkidbklaaW.PrintMore
attribute [local go_sem] max2_int min2_int max_two min_two max_three min_three max_four min_four   -- for this text's walks alone
set_option linter.unusedVariables false
set_option linter.unusedSimpArgs false
def retry_cut.f (a0 : Int) (a1 : Int) : Option (Int) := some (mn (mx a0 0) a1)
def retry_New.f (a0 : Int) : Option (Int × Int × Int) := (retry_cut.f a0 8).bind fun t102 => (some (t102, wrap64 (t102 + 1), t102))
def retry_Fine.f (a0_0 : Int) (a0_1 : Int) (a0_2 : Int) : Option (Int × Int × Int) := some (a0_0, a0_1, a0_0)
def retry_spent52.f (a0_0 a0_1 a0_2 : Int) : Option (Int × Int × Int × Bool) := if a0_2 ≤ 0 then some (a0_0, a0_1, a0_2, false) else some (a0_0, a0_1, (wrap64 (a0_2 - 1)), true)
def retry_spent51.f (a0_0 a0_1 a0_2 : Int) : Option (Int × Int × Int × Bool) := if a0_1 ≤ 0 then some (a0_0, a0_1, a0_2, false) else some (a0_0, (wrap64 (a0_1 - 1)), a0_2, true)
def retry_Again.f (a0_0 a0_1 a0_2 : Int) : Option (Int × Int × Int × Bool) := retry_spent52.f a0_0 a0_1 a0_2
def retry_Restart.f (a0_0 a0_1 a0_2 : Int) : Option (Int × Int × Int × Bool) := (retry_spent51.f a0_0 a0_1 a0_2).bind fun t => if t.2.2.2 = true then (retry_Fine.f t.1 t.2.1 t.2.2.1).bind (fun u => some (u.1, u.2.1, u.2.2, true)) else some (a0_0, a0_1, a0_2, false)
def spencelaw34_awake.f  : Option (Bool) := (retry_New.f 0).bind fun bt105 => ((retry_Again.f bt105.1 bt105.2.1 bt105.2.2).bind fun bt108 => ((retry_New.f 0).bind fun bt113 => ((retry_Restart.f bt113.1 bt113.2.1 bt113.2.2).bind fun bt116 => ((retry_Restart.f bt116.1 bt116.2.1 bt116.2.2.1).bind fun bt121 => (if bt108.2.2.2 = true then (some false) else (if bt116.2.2.2 = true then (some (!bt121.2.2.2)) else (some false)))))))
end Go.Proofs.Ytmojlhpkidbklaa.PAll
namespace Go.Proofs.Ytmojlhpkidbklaa.PAll
open Go.RowKit Go.Proofs.Ytmojlhpkidbklaa.Xw Go.Proofs.YtmojlhpkidbklaaW.PrintWords Go.Proofs.YtmojlhpkidbklaaW.PrintLast Go.Proofs.YtmojlhpkidbklaaW.PrintMore
attribute [local go_sem] max2_int min2_int max_two min_two max_three min_three max_four min_four   -- for this text's walks alone
set_option linter.unusedVariables false
set_option linter.unusedSimpArgs false
mutual
def spencelaw34_RetryEnds.l0 : Nat → Int → Int → Int → Int → Int → Option (Bool)
  | 0, _, _, _, _, _ => none
  | k + 1, x3, x5, x156000, x156001, x156002 => if x5 < x3 then ((retry_Again.f x156000 x156001 x156002).bind fun bt156 => (if bt156.2.2.2 = true then (spencelaw34_RetryEnds.l0 k x3 (wrap64 (x5 + 1)) bt156.1 bt156.2.1 bt156.2.2.1) else (some false))) else ((retry_Again.f x156000 x156001 x156002).bind fun bt161 => ((retry_Fine.f x156000 x156001 x156002).bind fun bt166 => ((retry_Again.f bt166.1 bt166.2.1 bt166.2.2).bind fun bt169 => (spencelaw34_RetryEnds.l1 k x3 bt161.2.2.2 bt169.2.2.2 0 x156000 x156001 x156002))))
def spencelaw34_RetryEnds.l1 : Nat → Int → Bool → Bool → Int → Int → Int → Int → Option (Bool)
  | 0, _, _, _, _, _, _, _ => none
  | k + 1, x3, x9, x11, x12, x156000, x156001, x156002 => if x12 ≤ x3 then ((retry_Restart.f x156000 x156001 x156002).bind fun bt174 => (if bt174.2.2.2 = true then (if bt174.2.2.1 = x3 then (spencelaw34_RetryEnds.l1 k x3 x9 x11 (wrap64 (x12 + 1)) bt174.1 bt174.2.1 bt174.2.2.1) else (some false)) else (some false))) else ((retry_Restart.f x156000 x156001 x156002).bind fun bt179 => (if x9 = true then (some false) else (if (x11 == (decide (x3 > 0))) = true then (some (!bt179.2.2.2)) else (some false))))
end
def spencelaw34_RetryEnds.f (k : Nat) (a0 : Int) : Option (Bool) := (spencelaw34_awake.f).bind fun t151 => (if t151 = true then ((retry_New.f a0).bind fun bt152 => (spencelaw34_RetryEnds.l0 k (mn (mx a0 0) 8) 0 bt152.1 bt152.2.1 bt152.2.2)) else (some false))
theorem spencelaw34_RetryEnds.mono_l : ∀ k, (∀ y0 y1 y2 y3 y4, LeO (spencelaw34_RetryEnds.l0 k y0 y1 y2 y3 y4) (spencelaw34_RetryEnds.l0 (k + 1) y0 y1 y2 y3 y4)) ∧ (∀ y0 y1 y2 y3 y4 y5 y6, LeO (spencelaw34_RetryEnds.l1 k y0 y1 y2 y3 y4 y5 y6) (spencelaw34_RetryEnds.l1 (k + 1) y0 y1 y2 y3 y4 y5 y6))
  | 0 => ⟨fun _ _ _ _ _ r h => by simp [spencelaw34_RetryEnds.l0] at h, fun _ _ _ _ _ _ _ r h => by simp [spencelaw34_RetryEnds.l1] at h⟩
  | k + 1 => by
    obtain ⟨ih0, ih1⟩ := spencelaw34_RetryEnds.mono_l k
    refine ⟨?_, ?_⟩
    · intro y0 y1 y2 y3 y4
      unfold spencelaw34_RetryEnds.l0
      repeat' first
      | (with_reducible exact ih0 _ _ _ _ _)
      | (with_reducible exact ih1 _ _ _ _ _ _ _)
      | (with_reducible exact LeO.refl _)
      | (with_reducible exact LeO.none _)
      | (with_reducible refine LeO.ite ?_ ?_)
      | (with_reducible refine LeO.bind ?_ (fun _ => ?_))
      | exact ih0 _ _ _ _ _
      | exact ih1 _ _ _ _ _ _ _
      | exact LeO.none _
      | refine LeO.ite ?_ ?_
      | refine LeO.bind ?_ (fun _ => ?_)
    · intro y0 y1 y2 y3 y4 y5 y6
      unfold spencelaw34_RetryEnds.l1
      repeat' first
      | (with_reducible exact ih0 _ _ _ _ _)
      | (with_reducible exact ih1 _ _ _ _ _ _ _)
      | (with_reducible exact LeO.refl _)
      | (with_reducible exact LeO.none _)
      | (with_reducible refine LeO.ite ?_ ?_)
      | (with_reducible refine LeO.bind ?_ (fun _ => ?_))
      | exact ih0 _ _ _ _ _
      | exact ih1 _ _ _ _ _ _ _
      | exact LeO.none _
      | refine LeO.ite ?_ ?_
      | refine LeO.bind ?_ (fun _ => ?_)
theorem spencelaw34_RetryEnds.mono : ∀ a0 k, LeO (spencelaw34_RetryEnds.f k a0) (spencelaw34_RetryEnds.f (k + 1) a0) := by
  intro a0 k
  obtain ⟨ih0, ih1⟩ := spencelaw34_RetryEnds.mono_l k
  unfold spencelaw34_RetryEnds.f
  repeat' first
      | (with_reducible exact ih0 _ _ _ _ _)
      | (with_reducible exact ih1 _ _ _ _ _ _ _)
      | (with_reducible exact LeO.refl _)
      | (with_reducible exact LeO.none _)
      | (with_reducible refine LeO.ite ?_ ?_)
      | (with_reducible refine LeO.bind ?_ (fun _ => ?_))
      | exact ih0 _ _ _ _ _
      | exact ih1 _ _ _ _ _ _ _
      | exact LeO.none _
      | refine LeO.ite ?_ ?_
      | refine LeO.bind ?_ (fun _ => ?_)
def cuts_Right.f (a0 : Int) (a1 : Int) : Option (Bool) := if a0 ≥ 0 then (if a0 ≤ 4096 then (if a1 ≥ 1 then (some (decide (a1 ≤ 64))) else (some false)) else (some false)) else (some false)
def cuts_Count.f (a0 : Int) (a1 : Int) : Option (Int) := (cuts_Right.f a0 a1).bind fun t184 => (if t184 = true then (if a1 = 0 then (none) else (some (wrap64 (Int.tdiv (wrap64 ((wrap64 (a0 + a1)) - 1)) a1)))) else (some 0))
def cuts_Bounds.f (a0 : Int) (a1 : Int) (a2 : Int) : Option (Int × Int × Bool) := if a0 < 0 then (some (0, 0, false)) else ((cuts_Count.f a1 a2).bind fun t186 => (if a0 ≥ t186 then (some (0, 0, false)) else (some (wrap64 (a0 * a2), mn (wrap64 ((wrap64 (a0 + 1)) * a2)) a1, true))))
end Go.Proofs.Ytmojlhpkidbklaa.PAll
namespace Go.Proofs.Ytmojlhpkidbklaa.PAll
open Go.RowKit Go.Proofs.Ytmojlhpkidbklaa.Xw Go.Proofs.YtmojlhpkidbklaaW.PrintWords Go.Proofs.YtmojlhpkidbklaaW.PrintLast Go.Proofs.YtmojlhpkidbklaaW.PrintMore
attribute [local go_sem] max2_int min2_int max_two min_two max_three min_three max_four min_four   -- for this text's walks alone
set_option linter.unusedVariables false
set_option linter.unusedSimpArgs false
theorem eqA35 (d : Nat) (w : World) (x0 y0 : Int) (x1 y1 : Int) :
    (Op.equalIn (d + 2) 35 (.agg #[.int .i64 x0, .int .i64 x1]) (.agg #[.int .i64 y0, .int .i64 y1])).run Try.prog w = .ok (x0 == y0 && (x1 == y1)) w := by
  refine eqA_of Try.underlying35 (by kernel_rfl) ?_
  refine eqf_cons (by rfl) (by go_simp; rfl) (by go_simp; rfl) (by go_simp) ?_
  exact eqf_last (by rfl) (by go_simp; rfl) (by go_simp; rfl) (by go_simp)
end Go.Proofs.Ytmojlhpkidbklaa.PAll
namespace Go.Proofs.Ytmojlhpkidbklaa.PAll
open Go.RowKit Go.Proofs.Ytmojlhpkidbklaa.Xw Go.Proofs.YtmojlhpkidbklaaW.PrintWords Go.Proofs.YtmojlhpkidbklaaW.PrintLast Go.Proofs.YtmojlhpkidbklaaW.PrintMore
attribute [local go_sem] max2_int min2_int max_two min_two max_three min_three max_four min_four   -- for this text's walks alone
set_option linter.unusedVariables false
set_option linter.unusedSimpArgs false
attribute [local go_sem high] eqA35
def spencelaw10_awake.f  : Option (Bool) := (cuts_Bounds.f 2 10 4).bind fun bt187 => (if bt187.2.2 = true then (some (bt187.1 == 8 && (bt187.2.1 == 10))) else (some false))
def spenceref04_Cuts.f (a0 : Int) (a1 : Int) : Option (Bool) := if a0 ≥ 0 then (if a0 ≤ 4096 then (if a1 ≥ 1 then (some (decide (a1 ≤ 64))) else (some false)) else (some false)) else (some false)
def span_Right.f (a0_0 : Int) (a0_1 : Int) : Option (Bool) := if a0_0 ≥ 0 then (if a0_0 < a0_1 then (some (decide (a0_1 ≤ 4611686018427387903))) else (some false)) else (some false)
def span_Len.f (a0_0 : Int) (a0_1 : Int) : Option (Int) := (span_Right.f a0_0 a0_1).bind fun t193 => (if t193 = true then (some (wrap64 (a0_1 - a0_0))) else (some 0))
def cuts_Last.f (a0 : Int) (a1 : Int) : Option (Int) := (cuts_Count.f a0 a1).bind fun t194 => ((cuts_Bounds.f (wrap64 (t194 - 1)) a0 a1).bind fun bt195 => ((span_Len.f bt195.1 bt195.2.1).bind fun t199 => (some t199)))
end Go.Proofs.Ytmojlhpkidbklaa.PAll
namespace Go.Proofs.Ytmojlhpkidbklaa.PAll
open Go.RowKit Go.Proofs.Ytmojlhpkidbklaa.Xw Go.Proofs.YtmojlhpkidbklaaW.PrintWords Go.Proofs.YtmojlhpkidbklaaW.PrintLast Go.Proofs.YtmojlhpkidbklaaW.PrintMore
attribute [local go_sem] max2_int min2_int max_two min_two max_three min_three max_four min_four   -- for this text's walks alone
set_option linter.unusedVariables false
set_option linter.unusedSimpArgs false
theorem eqA86 (d : Nat) (w : World) (x0 y0 : Int) (x1 y1 : Int) (x2 y2 : Bool) :
    (Op.equalIn (d + 2) 86 (.agg #[.int .i64 x0, .int .i64 x1, .bool x2]) (.agg #[.int .i64 y0, .int .i64 y1, .bool y2])).run Try.prog w = .ok (x0 == y0 && (x1 == y1 && (x2 == y2))) w := by
  refine eqA_of Try.underlying86 (by kernel_rfl) ?_
  refine eqf_cons (by rfl) (by go_simp; rfl) (by go_simp; rfl) (by go_simp) ?_
  refine eqf_cons (by rfl) (by go_simp; rfl) (by go_simp; rfl) (by go_simp) ?_
  exact eqf_last (by rfl) (by go_simp; rfl) (by go_simp; rfl) (by go_simp)
end Go.Proofs.Ytmojlhpkidbklaa.PAll
namespace Go.Proofs.Ytmojlhpkidbklaa.PAll
open Go.Proofs.Ytmojlhpkidbklaa.Ag (row_load row_store ag_gate)
open Go.RowKit Go.Proofs.Ytmojlhpkidbklaa.Xw Go.Proofs.YtmojlhpkidbklaaW.PrintWords Go.Proofs.YtmojlhpkidbklaaW.PrintLast Go.Proofs.YtmojlhpkidbklaaW.PrintMore
attribute [local go_sem] max2_int min2_int max_two min_two max_three min_three max_four min_four   -- for this text's walks alone
set_option linter.unusedVariables false
set_option linter.unusedSimpArgs false
attribute [local go_sem high] eqA86
def bitmap_may.f (a0 : Int) : Option (Bool) := if a0 ≥ 0 then (some (decide (a0 ≤ 4096))) else (some false)
def bitmap_Map_Has.f (a0_0 : Nat → Int) (a1 : Int) : Option Bool := some (Ag.hasF a0_0 a1)
theorem bitmap_Map_Has.calls (a0_0 : Nat → Int) (a1 : Int) (r : Bool) (w : World) (h : bitmap_Map_Has.f a0_0 a1 = some r) :
    Calls Try.prog 31 #[.agg (Ag.agC .u64 65 a0_0), .int .i64 a1] w fun e w' => e = .returned (.bool r) ∧ Below w.heap.size w w' := by
  obtain rfl := Option.some.inj h
  exact Ag.has_calls a0_0 a1 w
def api_Run.f (l0 : List (S86)) : Option ((List (S86))) := if 0 ≤ (l0.length : Int) then (if (l0.length : Int) ≤ (l0.length : Int) then (some (l0.take ((l0.length : Int) : Int).toNat)) else (none)) else (none)
set_option maxHeartbeats 8000000 in
set_option maxRecDepth 100000 in
theorem api_Run.calls (P0_ : Nat → Prop) (A0 : Option Addr) (c0 : Nat) (l0 : List (S86)) (r : List (S86)) (w : World) (hs0 : Kd.V k86 86 w w.heap.size (fun k_ => P0_ k_) (.slice A0 l0.length c0) l0) (h : api_Run.f l0 = some r) :
    Calls Try.prog 54 #[.slice A0 l0.length c0] w fun e w' => ∃ v0_ : Value, e = .returned (v0_) ∧ Kd.V k86 86 w' w.heap.size (fun k_ => (P0_ k_ ∨ w.heap.size ≤ k_)) v0_ r ∧ Below w.heap.size w w' := by
  have hr : r = l0 := by
    unfold api_Run.f at h
    rw [if_pos (by omega), if_pos (Int.le_refl _)] at h
    have := Option.some.inj h
    rw [← this, Int.toNat_natCast, List.take_length]
  subst hr
  have hV := Kd.V_mono (ok' := fun k_ => (P0_ k_ ∨ w.heap.size ≤ k_)) hs0 (fun k_ hk => .inl hk)
  have hF := (Kd.V_at hV).2.2
  refine (Ag.clip_calls A0 r.length c0 (Kd.V_at hV).2.1 ?_ w).mono ?_
  · rintro rfl
    rcases Nat.eq_zero_or_pos r.length with h0 | h0
    · exact h0
    · obtain ⟨ad, _, e, _⟩ := Kd.C_get (Kd.V_reads' hV).2.2 z86 0 (by omega) (by omega)
      cases e
  · rintro e w' ⟨rfl, rfl⟩
    exact ⟨_, rfl, Kd.V_mk (Nat.le_refl _) hF, Below.refl _ _⟩
def bitmap_Runs.l0 : Nat → Int → List (S86) → Int → (Nat → Int) → Option ((List (S86)))
  | 0, _, _, _, _ => none
  | k + 1, x2, x7, x8, x221000 => if x8 < x2 then ((bitmap_Map_Has.f x221000 x8).bind fun t221 => (if (x7.length : Int) > 0 then (if 0 ≤ (wrap64 ((x7.length : Int) - 1)) then (if (wrap64 ((x7.length : Int) - 1)) < (x7.length : Int) then (if (((rd_T86 x7 (wrap64 ((x7.length : Int) - 1))).f2) == t221) = true then (bitmap_Runs.l0 k x2 (x7.set ((wrap64 ((x7.length : Int) - 1)) : Int).toNat (⟨(rd_T86 x7 (wrap64 ((x7.length : Int) - 1))).f0, wrap64 (((rd_T86 x7 (wrap64 ((x7.length : Int) - 1))).f1) + 1), (rd_T86 x7 (wrap64 ((x7.length : Int) - 1))).f2⟩ : S86)) (wrap64 (x8 + 1)) x221000) else (if x7.length < 5864062014805 then (bitmap_Runs.l0 k x2 (x7 ++ [(⟨x8, wrap64 (x8 + 1), t221⟩ : S86)]) (wrap64 (x8 + 1)) x221000) else (none))) else (none)) else (none)) else (if x7.length < 5864062014805 then (bitmap_Runs.l0 k x2 (x7 ++ [(⟨x8, wrap64 (x8 + 1), t221⟩ : S86)]) (wrap64 (x8 + 1)) x221000) else (none)))) else ((api_Run.f x7).bind fun t231 => (some t231))
def bitmap_Runs.f (k : Nat) (a0_0 : (Nat → Int)) (a1 : Int) (a2 : Int) : Option ((List (S86))) := bitmap_Runs.l0 k (mn a2 4097) ([] : List (S86)) (mx a1 0) a0_0
theorem bitmap_Runs.mono_l : ∀ k, (∀ y0 y1 y2 y3, LeO (bitmap_Runs.l0 k y0 y1 y2 y3) (bitmap_Runs.l0 (k + 1) y0 y1 y2 y3))
  | 0 => fun _ _ _ _ r h => by simp [bitmap_Runs.l0] at h
  | k + 1 => by
    have ih0 := bitmap_Runs.mono_l k
    · intro y0 y1 y2 y3
      unfold bitmap_Runs.l0
      repeat' first
      | (with_reducible exact ih0 _ _ _ _)
      | (with_reducible exact LeO.refl _)
      | (with_reducible exact LeO.none _)
      | (with_reducible refine LeO.ite ?_ ?_)
      | (with_reducible refine LeO.bind ?_ (fun _ => ?_))
      | exact ih0 _ _ _ _
      | exact LeO.none _
      | refine LeO.ite ?_ ?_
      | refine LeO.bind ?_ (fun _ => ?_)
theorem bitmap_Runs.mono : ∀ a0 a1 a2 k, LeO (bitmap_Runs.f k a0 a1 a2) (bitmap_Runs.f (k + 1) a0 a1 a2) := by
  intro a0 a1 a2 k
  have ih0 := bitmap_Runs.mono_l k
  unfold bitmap_Runs.f
  repeat' first
      | (with_reducible exact ih0 _ _ _ _)
      | (with_reducible exact LeO.refl _)
      | (with_reducible exact LeO.none _)
      | (with_reducible refine LeO.ite ?_ ?_)
      | (with_reducible refine LeO.bind ?_ (fun _ => ?_))
      | exact ih0 _ _ _ _
      | exact LeO.none _
      | refine LeO.ite ?_ ?_
      | refine LeO.bind ?_ (fun _ => ?_)
set_option maxHeartbeats 8000000 in
set_option maxRecDepth 100000 in
theorem bitmap_Runs.calls (k : Nat) (a0_0 : (Nat → Int)) (a1 : Int) (a2 : Int) (r : List (S86)) (w : World) (h : bitmap_Runs.f k a0_0 a1 a2 = some r) :
    Calls Try.prog 25 #[.agg (Ag.agC .u64 65 a0_0), .int .i64 a1, .int .i64 a2] w fun e w' => ∃ v0_ : Value, e = .returned (v0_) ∧ Kd.V k86 86 w' w.heap.size (fun k_ => (w.heap.size ≤ k_)) v0_ r ∧ Below w.heap.size w w' := by
  have hu44 := Try.underlying44
  have hu86 := Try.underlying86
  have HB := Aside0.mk (Below.refl w.heap.size w)
  have H : (bitmap_Runs.l0 k (mn a2 4097) ([] : List (S86)) (mx a1 0) a0_0) = some r := h
  clear h
  obtain ⟨ji4, hji4⟩ : ∃ j_ : Int, (mx a1 0) = j_ := ⟨_, rfl⟩
  replace H : (bitmap_Runs.l0 k (mn a2 4097) ([] : List (S86)) ji4 a0_0) = some r := by first | (rw [hji4] at H; exact H) | (simp only [hji4] at H ⊢; exact H)
  (try (have hji4l : 0 ≤ ji4 := by (rw [← hji4]; unfold mx; (repeat' split) <;> omega)))
  (try (have hji4m : 0 ≤ ji4 := by omega))
  have hji4_ : (if a1 < 0 then 0 else a1) = ji4 := hji4
  obtain ⟨ji5, hji5⟩ : ∃ j_ : Int, (mn a2 4097) = j_ := ⟨_, rfl⟩
  replace H : (bitmap_Runs.l0 k ji5 ([] : List (S86)) ji4 a0_0) = some r := by first | (rw [hji5] at H; exact H) | (simp only [hji5] at H ⊢; exact H)
  (try (have hji5h : ji5 ≤ 4097 := by (rw [← hji5]; unfold mn; (repeat' split) <;> omega)))
  (try (have hji5g : ji5 ≤ 64 := by omega))
  have hji5_ : (if 4097 < a2 then 4097 else a2) = ji5 := hji5
  have H' := Aside0.mk H
  clear H
  go_enter Try.func25, Try.ntmps25
  go_wp2_with (first | ((with_reducible refine ag_gate (t := 44) rfl ?_); first | refine row_load rfl 44 _ rfl _ rfl .u64 65 _ 44 _ BK220.out Try.underlying44 rfl Ag.info_map ?_) | ((with_reducible refine gate_dst (N := 3) rfl ?_); refine box_event ?hg (N := 3) ?hd (cs := (Ag.agC .u64 65 a0_0)) (t := 44) ?hr ?_; (case hd => rfl); (case hg => rfl); (case hr => first | (go_simp; done) | (go_simp; rfl)); intro gb220 hg w6 hbox hb; have n0_ := Aside0.mk (below_step (by repeat (first | (with_reducible first | exact HB.out | apply below_alloc | apply pw_below_drewN | apply below_drew1) | exact HB.out)) hb); have n1_ := Aside0.mk (hbox); have n2_ := Aside0.mk ((by rw [hg]; exact (below_size (by repeat (first | (with_reducible first | exact HB.out | apply below_alloc | apply pw_below_drewN | apply below_drew1) | exact HB.out))) : w.heap.size ≤ gb220)); have n3_ := Aside0.mk ((by rw [hg]; exact (below_size (by repeat (first | (with_reducible first | exact HB.out | apply below_alloc | apply pw_below_drewN | apply below_drew1) | exact HB.out))) : w.heap.size ≤ gb220)); clear HB; have HB := n0_; have BK220 := n1_; have GW220 := n2_; have GE220 := n3_; clear n0_ n1_ n2_ n3_; clear hb hbox hg))
  go_loopg [7, 8] k (fun kq v7 v8 w' => ∃ (x7_1 : List (S86)) (x8_1 : Int), v8 = .int .i64 x8_1 ∧ Aside0 (bitmap_Runs.l0 kq ji5 x7_1 x8_1 a0_0 = some r) ∧ Aside0 (kq ≤ k) ∧ Aside0 (Kd.R k86 86 w' w.heap.size (fun k_ => (w.heap.size ≤ k_)) v7 x7_1) ∧ Aside0 (w'.heap[gb220]? = some (.cells (Ag.agC .u64 65 a0_0) 44 (0, 0))) ∧ Aside0 (Below w.heap.size w w'))
  case atStart => exact ⟨(([] : List (S86))), (ji4), (by first | rfl | (simp; done) | (simp only [← hji4] <;> (first | rfl | simp)) | (simp [*]; done)), H', ⟨Nat.le_refl _⟩, ⟨by first | exact Kd.R_nil _ _ _ _ _ | exact Kd.N_nil _ _ _ _ _ | exact Kd.V_nil _ _ _ _ _ | exact Kd.Q_nil _ _ _ _ _ | exact Kd.S_nil _ _ _ _ _⟩, ⟨by (with_reducible repeat (first | refine blk_drewN ?_ _ | refine blk_drew ?_ | refine blk_alloc ?_ _)); exact BK220.out⟩, ⟨by repeat (first | (with_reducible first | exact HB.out | apply below_alloc | apply pw_below_drewN | apply below_drew1 | refine below_set ?_ GE220.out) | exact HB.out)⟩⟩
  case round =>
    clear H'
    try clear c2
    try clear p2
    obtain ⟨x7_1, x8_1, rfl, HA, HK1, HO_7, BK220, HB⟩ := hrel
    cases gk with
    | zero => exact absurd HA.out (by simp [bitmap_Runs.l0])
    | succ k1 =>
      have H := HA.out
      clear HA
      simp only [bitmap_Runs.l0] at H
      by_cases c7 : x8_1 < ji5
      · rw [if_pos c7] at H
        have c7b0 : decide (x8_1 < ji5) = true := decide_eq_true c7
        clear c7
        replace H := Option.bind_eq_some_iff.mp H
        obtain ⟨t221, A80, H⟩ := H
        replace H : (if (x7_1.length : Int) > 0 then (if 0 ≤ (wrap64 ((x7_1.length : Int) - 1)) then (if (wrap64 ((x7_1.length : Int) - 1)) < (x7_1.length : Int) then (if (((rd_T86 x7_1 (wrap64 ((x7_1.length : Int) - 1))).f2) == t221) = true then (bitmap_Runs.l0 k1 ji5 (x7_1.set ((wrap64 ((x7_1.length : Int) - 1)) : Int).toNat (⟨(rd_T86 x7_1 (wrap64 ((x7_1.length : Int) - 1))).f0, wrap64 (((rd_T86 x7_1 (wrap64 ((x7_1.length : Int) - 1))).f1) + 1), (rd_T86 x7_1 (wrap64 ((x7_1.length : Int) - 1))).f2⟩ : S86)) (wrap64 (x8_1 + 1)) a0_0) else (if x7_1.length < 5864062014805 then (bitmap_Runs.l0 k1 ji5 (x7_1 ++ [(⟨x8_1, wrap64 (x8_1 + 1), t221⟩ : S86)]) (wrap64 (x8_1 + 1)) a0_0) else (none))) else (none)) else (none)) else (if x7_1.length < 5864062014805 then (bitmap_Runs.l0 k1 ji5 (x7_1 ++ [(⟨x8_1, wrap64 (x8_1 + 1), t221⟩ : S86)]) (wrap64 (x8_1 + 1)) a0_0) else (none))) = some r := H
        have A8 := Aside0.mk A80
        clear A80
        by_cases c9 : (x7_1.length : Int) > 0
        · rw [if_pos c9] at H
          have c9b0 : decide (0 < (x7_1.length : Int)) = true := decide_eq_true c9
          have c9b1 : decide (0 < x7_1.length) = true := decide_eq_true (by omega)
          clear c9
          obtain ⟨ji10, hji10⟩ : ∃ j_ : Int, (wrap64 ((x7_1.length : Int) - 1)) = j_ := ⟨_, rfl⟩
          replace H : (if 0 ≤ (ji10) then (if (ji10) < (x7_1.length : Int) then (if (((rd_T86 x7_1 (ji10)).f2) == t221) = true then (bitmap_Runs.l0 k1 ji5 (x7_1.set ((ji10) : Int).toNat (⟨(rd_T86 x7_1 (ji10)).f0, wrap64 (((rd_T86 x7_1 (ji10)).f1) + 1), (rd_T86 x7_1 (ji10)).f2⟩ : S86)) (wrap64 (x8_1 + 1)) a0_0) else (if x7_1.length < 5864062014805 then (bitmap_Runs.l0 k1 ji5 (x7_1 ++ [(⟨x8_1, wrap64 (x8_1 + 1), t221⟩ : S86)]) (wrap64 (x8_1 + 1)) a0_0) else (none))) else (none)) else (none)) = some r := by first | (rw [hji10] at H; exact H) | (simp only [hji10] at H ⊢; exact H)
          (try rw [hji10] at A8)
          have hji10w : (IntKind.i64.wrap ((x7_1.length : Int) - 1)) = ji10 := (i64_w _).trans hji10
          by_cases c11 : 0 ≤ (ji10)
          · rw [if_pos c11] at H
            have c11b0 : decide (0 ≤ (ji10)) = true := decide_eq_true c11
            clear c11
            by_cases c12 : (ji10) < (x7_1.length : Int)
            · rw [if_pos c12] at H
              have c12b0 : decide ((ji10) < (x7_1.length : Int)) = true := decide_eq_true c12
              clear c12
              by_cases c13 : (((rd_T86 x7_1 (ji10)).f2) == t221) = true
              · rw [if_pos c13] at H
                have c13b0 : (((rd_T86 x7_1 (ji10)).f2) == t221) = true := c13
                (try (have c13b1 : decide (((rd_T86 x7_1 (ji10)).f2) = t221) = true := by simpa using c13))
                (try (have c13b2 : (((rd_T86 x7_1 (ji10)).f2) == t221) = true := by simpa using c13))
                clear c13
                obtain ⟨y224, hy224⟩ : ∃ y_ : List (S86), y_ = (x7_1.set ((ji10) : Int).toNat (⟨(rd_T86 x7_1 (ji10)).f0, wrap64 (((rd_T86 x7_1 (ji10)).f1) + 1), (rd_T86 x7_1 (ji10)).f2⟩ : S86)) := ⟨_, rfl⟩
                replace H : (bitmap_Runs.l0 k1 ji5 y224 (wrap64 (x8_1 + 1)) a0_0) = some r := by first | (rw [hy224]; with_reducible exact H) | (have H2_ := (Option.bind_some _ _).symm.trans H; rw [hy224]; with_reducible exact H2_) | (have H2_ := (Option.bind_some _ _).symm.trans H; with_reducible exact H2_) | with_reducible exact H | (rw [hy224]; exact H) | exact H
                have Ny224 := Aside0.mk hy224
                clear hy224
                have H' := Aside0.mk H
                clear H
                go_wp2_with (first | ((with_reducible refine ag_gate (t := 44) rfl ?_); first | refine row_load rfl 44 _ rfl _ rfl .u64 65 _ 44 _ BK220.out Try.underlying44 rfl Ag.info_map ?_) | ((with_reducible refine gate_callee (f := 31) rfl ?_); refine goesL_ (some 23) rfl rfl Try.func31 (by kernel_rfl) rfl #[.agg (Ag.agC .u64 65 a0_0), .int .i64 x8_1] rfl (by (try simp only [List.map_toArray, List.map_cons, List.map_nil]); first | done | rfl | (simp only [List.length_drop, List.length_take]; rfl)) ?_; (with_reducible refine (bitmap_Map_Has.calls a0_0 x8_1 t221 _ A8.out).mono ?_); rintro e w16 ⟨rfl, hb⟩; refine ⟨_, rfl, ?_⟩; have n0_ := Aside0.mk (Kd.R_below (by (with_reducible repeat (first | apply Kd.R_alloc | apply Kd.R_drewN | apply Kd.R_drew)); exact HO_7.out) hb); have n1_ := Aside0.mk (blk_below (g := gb220) (o := .cells (Ag.agC .u64 65 a0_0) 44 (0, 0)) (by (with_reducible repeat (first | refine blk_drewN ?_ _ | refine blk_drew ?_ | refine blk_alloc ?_ _)); exact BK220.out) hb); have n2_ := Aside0.mk (below_step (by repeat (first | (with_reducible first | exact HB.out | apply below_alloc | apply pw_below_drewN | apply below_drew1 | refine below_set ?_ GE220.out) | exact HB.out)) hb); clear HO_7; clear BK220; clear HB; have HO_7 := n0_; have BK220 := n1_; have HB := n2_; clear n0_ n1_ n2_; (try clear hb); (try clear hb2); (try clear hk); (try clear hi); obtain ⟨Ao17, co17, eo17⟩ := Kd.R_slice HO_7.out; subst eo17; have p222 : 0 ≤ ((ji10) : Int) := of_decide_eq_true (by first | (with_reducible assumption) | assumption); have q222 : (ji10) < (x7_1.length : Int) := of_decide_eq_true (by first | (with_reducible assumption) | assumption); obtain ⟨ad222, e222, hx222_0, hx222_1, hx222_2⟩ := at_T86 (Kd.R_reads' HO_7.out).2.2 (ji10) p222 q222; cases e222; replace p222 := eq_true p222; replace q222 := eq_true q222; have p223 : 0 ≤ ((ji10) : Int) := of_decide_eq_true (by first | (with_reducible assumption) | assumption); have q223 : (ji10) < (x7_1.length : Int) := of_decide_eq_true (by first | (with_reducible assumption) | assumption); obtain ⟨ad223, e223, hx223_0, hx223_1, hx223_2⟩ := at_T86 (Kd.R_reads' HO_7.out).2.2 (ji10) p223 q223; obtain rfl : ad222 = ad223 := (by injection e223); replace p223 := eq_true p223; replace q223 := eq_true q223; have p14 : 0 ≤ ((ji10) : Int) := of_decide_eq_true (by first | (with_reducible assumption) | assumption); have q14 : ((ji10) : Int) < ((x7_1.length : Int) : Int) := of_decide_eq_true (by first | (with_reducible assumption) | assumption); obtain ⟨go14, co14, eo14, gb14, gl14, cl14, HG14⟩ := Kd.R_form HO_7.out (by omega); (first | cases eo14 | (injection eo14 with ea_ en_ ec_; (first | subst ea_ | (injection ea_ with ea_; subst ea_)); subst ec_; clear en_)); have GB14 := Aside0.mk gb14; have GG14 := Aside0.mk HG14; clear gb14 gl14 HG14; (first | simp only [add_plain] at hx222_0 | skip); (first | simp only [add_plain] at hx222_1 | skip); (first | simp only [add_plain] at hx222_2 | skip); (first | simp only [add_plain] at hx223_0 | skip); (first | simp only [add_plain] at hx223_1 | skip); (first | simp only [add_plain] at hx223_2 | skip); obtain ⟨ce14, hcl14, hM14, hcc14, hfr14⟩ := Kd.R_elem HO_7.out z86 ((ji10) : Int) p14 q14; obtain rfl := k86_openM hM14; have hx14_0 : w16.cell? ⟨go14, ((ji10) : Int).toNat * 3, none⟩ = some (.int .i64 ((rd_T86 x7_1 (ji10)).f0)) := hcc14 0 _ rfl; have hx14_1 : w16.cell? ⟨go14, ((ji10) : Int).toNat * 3 + 1, none⟩ = some (.int .i64 ((rd_T86 x7_1 (ji10)).f1)) := hcc14 1 _ rfl; have hx14_2 : w16.cell? ⟨go14, ((ji10) : Int).toNat * 3 + 2, none⟩ = some (.bool ((rd_T86 x7_1 (ji10)).f2)) := hcc14 2 _ rfl; have hf14_0 : w16.frozen? ⟨go14, ((ji10) : Int).toNat * 3, none⟩ = false := hfr14 0; have hf14_1 : w16.frozen? ⟨go14, ((ji10) : Int).toNat * 3 + 1, none⟩ = false := hfr14 1; have hf14_2 : w16.frozen? ⟨go14, ((ji10) : Int).toNat * 3 + 2, none⟩ = false := hfr14 2; clear hcl14 hcc14 hfr14 hM14; replace p14 := eq_true p14; replace q14 := eq_true q14; have HX18 := Aside0.mk (show Kd.R k86 86 w16 w.heap.size (fun k_ => (w.heap.size ≤ k_)) (.slice (some ⟨go14, 0, none⟩) x7_1.length co17) x7_1 from (by (with_reducible repeat (first | apply Kd.R_alloc | apply Kd.R_drewN | apply Kd.R_drew)); exact HO_7.out)); obtain ⟨ce18, hcl18, hM18, hcc18, hfr18⟩ := Kd.R_elem HX18.out z86 ((ji10) : Int) (of_decide_eq_true (by first | (with_reducible assumption) | assumption)) (by have h_ : ((ji10) : Int) < ((x7_1.length : Int) : Int) := of_decide_eq_true (by first | (with_reducible assumption) | assumption); first | exact h_ | (have e_ := (Kd.R_reads' HO_7.out).1; omega) | simpa using h_); obtain rfl := k86_openM hM18; have HP18 := Kd.R_seg HX18.out ((ji10) : Int) (of_decide_eq_true (by first | (with_reducible assumption) | assumption)) (by have h_ : ((ji10) : Int) < ((x7_1.length : Int) : Int) := of_decide_eq_true (by first | (with_reducible assumption) | assumption); first | exact h_ | (have e_ := (Kd.R_reads' HO_7.out).1; omega) | simpa using h_) (seg := [.int .i64 (wrap64 (((rd_T86 x7_1 (ji10)).f1) + 1))]) (j := 1) hcl18 hcc18 (show 2 ≤ 3 from by decide) (x' := (⟨(rd_T86 x7_1 (ji10)).f0, wrap64 (((rd_T86 x7_1 (ji10)).f1) + 1), (rd_T86 x7_1 (ji10)).f2⟩ : S86)) (k86_mkM _ _ _ (⟨(rd_T86 x7_1 (ji10)).f0, wrap64 (((rd_T86 x7_1 (ji10)).f1) + 1), (rd_T86 x7_1 (ji10)).f2⟩ : S86) ) (fun _ hk => hk); have hx18_1 := hcc18 1 _ rfl; (try simp only [show (k86).sz = 3 from rfl, Nat.mul_one, Nat.add_zero] at hx18_1); have hf18_1 := hfr18 1; (try simp only [show (k86).sz = 3 from rfl, Nat.mul_one, Nat.add_zero] at hf18_1); clear hcl18 hcc18 hfr18 hM18) | ((with_reducible refine gate_store (t := 3) (p := 46) rfl ?_); refine store_event (t := 3) (p := 46) (v := ?vo_w19) (w1 := (w16.setCell ⟨go14, ((ji10) : Int).toNat * 3 + 1, none⟩ (.int .i64 (wrap64 (((rd_T86 x7_1 (ji10)).f1) + 1))))) ?hg ?ho ?hn ?hr ?_; (case ho => rfl); (case hg => rfl); (case hn => rfl); (case hr => first | (go_simp; done) | (go_simp; rfl)); intro w19 hw; have hg : w16.grownBy w19 (some go14) := (by rw [hw]; exact HP18.2); have hp_ : Kd.R k86 86 w19 w.heap.size (fun k_ => (w.heap.size ≤ k_)) (.slice (some ⟨go14, 0, none⟩) x7_1.length co17) y224 := (by rw [hw, Ny224.out]; exact HP18.1); clear HP18; have n0_ := Aside0.mk (hp_); have n1_ := Aside0.mk (blk_grown (g := gb220) (o := .cells (Ag.agC .u64 65 a0_0) 44 (0, 0)) (by (with_reducible repeat (first | refine blk_drewN ?_ _ | refine blk_drew ?_ | refine blk_alloc ?_ _)); exact BK220.out) hg (Kd.R_ne HO_7.out BK220.out (by decide))); have n2_ := Aside0.mk ((by rw [hw]; exact below_set (HB.out) GB14.out : Below w.heap.size w w19)); clear HO_7; clear BK220; clear HB; have HO_7 := n0_; have BK220 := n1_; have HB := n2_; clear n0_ n1_ n2_; clear hg hw hp_))
                go_roundg k1
                case measure => have := HK1.out; omega
                case rel => exact ⟨(y224), (wrap64 (x8_1 + 1)), (by first | rfl | (simp; done) | (simp [*]; done)), H', ⟨by have := HK1.out; omega⟩, ⟨by (with_reducible repeat (first | apply Kd.R_alloc | apply Kd.R_drewN | apply Kd.R_drew)); exact HO_7.out⟩, ⟨by (with_reducible repeat (first | refine blk_drewN ?_ _ | refine blk_drew ?_ | refine blk_alloc ?_ _)); exact BK220.out⟩, ⟨by repeat (first | (with_reducible first | exact HB.out | apply below_alloc | apply pw_below_drewN | apply below_drew1 | refine below_set ?_ GE220.out) | exact HB.out)⟩⟩
              · rw [if_neg c13] at H
                have c13b0 : (((rd_T86 x7_1 (ji10)).f2) == t221) = false := by simpa using c13
                (try (have c13b1 : decide (((rd_T86 x7_1 (ji10)).f2) = t221) = false := by simpa using c13))
                (try (have c13b2 : (((rd_T86 x7_1 (ji10)).f2) == t221) = false := by simpa using c13))
                (try (have c13b3 : ¬ (((rd_T86 x7_1 (ji10)).f2) = t221) := by simpa using c13))
                clear c13
                by_cases c20 : x7_1.length < 5864062014805
                · rw [if_pos c20] at H
                  have LMc20 := Aside0.mk c20
                  clear c20
                  obtain ⟨y225, hy225⟩ : ∃ y_ : List (S86), y_ = (x7_1 ++ [(⟨x8_1, wrap64 (x8_1 + 1), t221⟩ : S86)]) := ⟨_, rfl⟩
                  replace H : (bitmap_Runs.l0 k1 ji5 y225 (wrap64 (x8_1 + 1)) a0_0) = some r := by first | (rw [hy225]; with_reducible exact H) | (have H2_ := (Option.bind_some _ _).symm.trans H; rw [hy225]; with_reducible exact H2_) | (have H2_ := (Option.bind_some _ _).symm.trans H; with_reducible exact H2_) | with_reducible exact H | (rw [hy225]; exact H) | exact H
                  have Ny225 := Aside0.mk hy225
                  clear hy225
                  have H' := Aside0.mk H
                  clear H
                  go_wp2_with (first | ((with_reducible refine ag_gate (t := 44) rfl ?_); first | refine row_load rfl 44 _ rfl _ rfl .u64 65 _ 44 _ BK220.out Try.underlying44 rfl Ag.info_map ?_) | ((with_reducible refine gate_callee (f := 31) rfl ?_); refine goesL_ (some 23) rfl rfl Try.func31 (by kernel_rfl) rfl #[.agg (Ag.agC .u64 65 a0_0), .int .i64 x8_1] rfl (by (try simp only [List.map_toArray, List.map_cons, List.map_nil]); first | done | rfl | (simp only [List.length_drop, List.length_take]; rfl)) ?_; (with_reducible refine (bitmap_Map_Has.calls a0_0 x8_1 t221 _ A8.out).mono ?_); rintro e w22 ⟨rfl, hb⟩; refine ⟨_, rfl, ?_⟩; have n0_ := Aside0.mk (Kd.R_below (by (with_reducible repeat (first | apply Kd.R_alloc | apply Kd.R_drewN | apply Kd.R_drew)); exact HO_7.out) hb); have n1_ := Aside0.mk (blk_below (g := gb220) (o := .cells (Ag.agC .u64 65 a0_0) 44 (0, 0)) (by (with_reducible repeat (first | refine blk_drewN ?_ _ | refine blk_drew ?_ | refine blk_alloc ?_ _)); exact BK220.out) hb); have n2_ := Aside0.mk (below_step (by repeat (first | (with_reducible first | exact HB.out | apply below_alloc | apply pw_below_drewN | apply below_drew1 | refine below_set ?_ GE220.out) | exact HB.out)) hb); clear HO_7; clear BK220; clear HB; have HO_7 := n0_; have BK220 := n1_; have HB := n2_; clear n0_ n1_ n2_; (try clear hb); (try clear hb2); (try clear hk); (try clear hi); obtain ⟨Ao23, co23, eo23⟩ := Kd.R_slice HO_7.out; subst eo23; have p222 : 0 ≤ ((ji10) : Int) := of_decide_eq_true (by first | (with_reducible assumption) | assumption); have q222 : (ji10) < (x7_1.length : Int) := of_decide_eq_true (by first | (with_reducible assumption) | assumption); obtain ⟨ad222, e222, hx222_0, hx222_1, hx222_2⟩ := at_T86 (Kd.R_reads' HO_7.out).2.2 (ji10) p222 q222; cases e222; replace p222 := eq_true p222; replace q222 := eq_true q222) | ((with_reducible refine gate_builtin (b := .append) (xs := #[.tmp 47, .tmp 53]) rfl ?_); at_builtin; refine Kd.R_append k86 (w0 := w) w.heap.size rfl (.tmp 47) (.tmp 53) 39 86 (.agg #[(.int .i64 0), (.int .i64 0), (.bool false)]) 24 rfl Try.underlying39 info86 rfl (by decide) (by omega) (.slice (some ad222) x7_1.length co23) x7_1 (⟨x8_1, wrap64 (x8_1 + 1), t221⟩ : S86) [.int .i64 x8_1, .int .i64 (wrap64 (x8_1 + 1)), .bool t221] (fun k_ => (w.heap.size ≤ k_)) (fun _ => False) rfl rfl ?aP (fun _ hk => hk.elim) ?aF ?aO ?aB ?aS ?aL ?_; (case aP => exact k86_mkM _ _ _ (⟨x8_1, wrap64 (x8_1 + 1), t221⟩ : S86)); (case aB => exact (by repeat (first | (with_reducible first | exact HB.out | apply below_alloc | apply pw_below_drewN | apply below_drew1 | refine below_set ?_ GE220.out) | exact HB.out))); (case aF => exact (fun k_ hk => (Nat.le_trans (below_size (by repeat (first | (with_reducible first | exact HB.out | apply below_alloc | apply pw_below_drewN | apply below_drew1 | refine below_set ?_ GE220.out) | exact HB.out))) hk))); (case aO => exact (by (with_reducible repeat (first | apply Kd.R_alloc | apply Kd.R_drewN | apply Kd.R_drew)); exact HO_7.out)); (case aS => exact (below_size (by repeat (first | (with_reducible first | exact HB.out | apply below_alloc | apply pw_below_drewN | apply below_drew1 | refine below_set ?_ GE220.out) | exact HB.out)))); (case aL => have := LMc20.out; omega); intro v226 w24 ho hb hg hat; rw [← Ny225.out] at ho; have n0_ := Aside0.mk (blk_grown (g := gb220) (o := .cells (Ag.agC .u64 65 a0_0) 44 (0, 0)) (by (with_reducible repeat (first | refine blk_drewN ?_ _ | refine blk_drew ?_ | refine blk_alloc ?_ _)); exact BK220.out) hg (Kd.R_ne HO_7.out BK220.out (by decide))); have n1_ := Aside0.mk (hb); have n2_ := Aside0.mk (ho); clear BK220; clear HB; clear HO_7; have BK220 := n0_; have HB := n1_; have HO227 := n2_; clear n0_ n1_ n2_; clear ho hb hg hat))
                  go_roundg k1
                  case measure => have := HK1.out; omega
                  case rel => exact ⟨(y225), (wrap64 (x8_1 + 1)), (by first | rfl | (simp; done) | (simp [*]; done)), H', ⟨by have := HK1.out; omega⟩, ⟨by (with_reducible repeat (first | apply Kd.R_alloc | apply Kd.R_drewN | apply Kd.R_drew)); exact HO227.out⟩, ⟨by (with_reducible repeat (first | refine blk_drewN ?_ _ | refine blk_drew ?_ | refine blk_alloc ?_ _)); exact BK220.out⟩, ⟨by repeat (first | (with_reducible first | exact HB.out | apply below_alloc | apply pw_below_drewN | apply below_drew1 | refine below_set ?_ GE220.out) | exact HB.out)⟩⟩
                · rw [if_neg c20] at H
                  exact absurd H (by simp)
            · rw [if_neg c12] at H
              exact absurd H (by simp)
          · rw [if_neg c11] at H
            exact absurd H (by simp)
        · rw [if_neg c9] at H
          have c9b0 : decide (0 < (x7_1.length : Int)) = false := decide_eq_false c9
          have c9b1 : decide (0 < x7_1.length) = false := decide_eq_false (by omega)
          clear c9
          by_cases c25 : x7_1.length < 5864062014805
          · rw [if_pos c25] at H
            have LMc25 := Aside0.mk c25
            clear c25
            obtain ⟨y228, hy228⟩ : ∃ y_ : List (S86), y_ = (x7_1 ++ [(⟨x8_1, wrap64 (x8_1 + 1), t221⟩ : S86)]) := ⟨_, rfl⟩
            replace H : (bitmap_Runs.l0 k1 ji5 y228 (wrap64 (x8_1 + 1)) a0_0) = some r := by first | (rw [hy228]; with_reducible exact H) | (have H2_ := (Option.bind_some _ _).symm.trans H; rw [hy228]; with_reducible exact H2_) | (have H2_ := (Option.bind_some _ _).symm.trans H; with_reducible exact H2_) | with_reducible exact H | (rw [hy228]; exact H) | exact H
            have Ny228 := Aside0.mk hy228
            clear hy228
            have H' := Aside0.mk H
            clear H
            go_wp2_with (first | ((with_reducible refine ag_gate (t := 44) rfl ?_); first | refine row_load rfl 44 _ rfl _ rfl .u64 65 _ 44 _ BK220.out Try.underlying44 rfl Ag.info_map ?_) | ((with_reducible refine gate_callee (f := 31) rfl ?_); refine goesL_ (some 23) rfl rfl Try.func31 (by kernel_rfl) rfl #[.agg (Ag.agC .u64 65 a0_0), .int .i64 x8_1] rfl (by (try simp only [List.map_toArray, List.map_cons, List.map_nil]); first | done | rfl | (simp only [List.length_drop, List.length_take]; rfl)) ?_; (with_reducible refine (bitmap_Map_Has.calls a0_0 x8_1 t221 _ A8.out).mono ?_); rintro e w27 ⟨rfl, hb⟩; refine ⟨_, rfl, ?_⟩; have n0_ := Aside0.mk (Kd.R_below (by (with_reducible repeat (first | apply Kd.R_alloc | apply Kd.R_drewN | apply Kd.R_drew)); exact HO_7.out) hb); have n1_ := Aside0.mk (blk_below (g := gb220) (o := .cells (Ag.agC .u64 65 a0_0) 44 (0, 0)) (by (with_reducible repeat (first | refine blk_drewN ?_ _ | refine blk_drew ?_ | refine blk_alloc ?_ _)); exact BK220.out) hb); have n2_ := Aside0.mk (below_step (by repeat (first | (with_reducible first | exact HB.out | apply below_alloc | apply pw_below_drewN | apply below_drew1 | refine below_set ?_ GE220.out) | exact HB.out)) hb); clear HO_7; clear BK220; clear HB; have HO_7 := n0_; have BK220 := n1_; have HB := n2_; clear n0_ n1_ n2_; (try clear hb); (try clear hb2); (try clear hk); (try clear hi); obtain ⟨Ao28, co28, eo28⟩ := Kd.R_slice HO_7.out; subst eo28) | ((with_reducible refine gate_builtin (b := .append) (xs := #[.tmp 47, .tmp 53]) rfl ?_); at_builtin; refine Kd.R_append k86 (w0 := w) w.heap.size rfl (.tmp 47) (.tmp 53) 39 86 (.agg #[(.int .i64 0), (.int .i64 0), (.bool false)]) 24 rfl Try.underlying39 info86 rfl (by decide) (by omega) (.slice Ao28 x7_1.length co28) x7_1 (⟨x8_1, wrap64 (x8_1 + 1), t221⟩ : S86) [.int .i64 x8_1, .int .i64 (wrap64 (x8_1 + 1)), .bool t221] (fun k_ => (w.heap.size ≤ k_)) (fun _ => False) rfl rfl ?aP (fun _ hk => hk.elim) ?aF ?aO ?aB ?aS ?aL ?_; (case aP => exact k86_mkM _ _ _ (⟨x8_1, wrap64 (x8_1 + 1), t221⟩ : S86)); (case aB => exact (by repeat (first | (with_reducible first | exact HB.out | apply below_alloc | apply pw_below_drewN | apply below_drew1 | refine below_set ?_ GE220.out) | exact HB.out))); (case aF => exact (fun k_ hk => (Nat.le_trans (below_size (by repeat (first | (with_reducible first | exact HB.out | apply below_alloc | apply pw_below_drewN | apply below_drew1 | refine below_set ?_ GE220.out) | exact HB.out))) hk))); (case aO => exact (by (with_reducible repeat (first | apply Kd.R_alloc | apply Kd.R_drewN | apply Kd.R_drew)); exact HO_7.out)); (case aS => exact (below_size (by repeat (first | (with_reducible first | exact HB.out | apply below_alloc | apply pw_below_drewN | apply below_drew1 | refine below_set ?_ GE220.out) | exact HB.out)))); (case aL => have := LMc25.out; omega); intro v229 w29 ho hb hg hat; rw [← Ny228.out] at ho; have n0_ := Aside0.mk (blk_grown (g := gb220) (o := .cells (Ag.agC .u64 65 a0_0) 44 (0, 0)) (by (with_reducible repeat (first | refine blk_drewN ?_ _ | refine blk_drew ?_ | refine blk_alloc ?_ _)); exact BK220.out) hg (Kd.R_ne HO_7.out BK220.out (by decide))); have n1_ := Aside0.mk (hb); have n2_ := Aside0.mk (ho); clear BK220; clear HB; clear HO_7; have BK220 := n0_; have HB := n1_; have HO230 := n2_; clear n0_ n1_ n2_; clear ho hb hg hat))
            go_roundg k1
            case measure => have := HK1.out; omega
            case rel => exact ⟨(y228), (wrap64 (x8_1 + 1)), (by first | rfl | (simp; done) | (simp [*]; done)), H', ⟨by have := HK1.out; omega⟩, ⟨by (with_reducible repeat (first | apply Kd.R_alloc | apply Kd.R_drewN | apply Kd.R_drew)); exact HO230.out⟩, ⟨by (with_reducible repeat (first | refine blk_drewN ?_ _ | refine blk_drew ?_ | refine blk_alloc ?_ _)); exact BK220.out⟩, ⟨by repeat (first | (with_reducible first | exact HB.out | apply below_alloc | apply pw_below_drewN | apply below_drew1 | refine below_set ?_ GE220.out) | exact HB.out)⟩⟩
          · rw [if_neg c25] at H
            exact absurd H (by simp)
      · rw [if_neg c7] at H
        have c7b0 : decide (x8_1 < ji5) = false := decide_eq_false c7
        clear c7
        replace H := Option.bind_eq_some_iff.mp H
        obtain ⟨t231, A300, H⟩ := H
        replace H : (some t231) = some r := H
        have A30 := Aside0.mk A300
        clear A300
        obtain rfl := Option.some.inj H
        obtain ⟨Ao31, co31, eo31⟩ := Kd.R_slice HO_7.out
        subst eo31
        go_wp2_with (first | ((with_reducible refine ag_gate (t := 44) rfl ?_); first | refine row_load rfl 44 _ rfl _ rfl .u64 65 _ 44 _ BK220.out Try.underlying44 rfl Ag.info_map ?_) | ((with_reducible refine gate_callee (f := 54) rfl ?_); refine goesL_ (some 56) rfl rfl Try.func54 (by kernel_rfl) rfl #[.slice Ao31 x7_1.length co31] rfl (by (try simp only [List.map_toArray, List.map_cons, List.map_nil]); first | done | rfl | (simp only [List.length_drop, List.length_take]; rfl)) ?_; (with_reducible refine (api_Run.calls (fun k_ => some k_ = (.slice Ao31 x7_1.length co31 : Value).ownBlock) _ _ x7_1 t231 _ ?side1 A30.out).mono ?_); (case side1 => exact Kd.R_V (Kd.R_tight rfl (Kd.R_types (HO_7.out) BK220.out (by decide)))); rintro e w32 ⟨v232, rfl, ho0, hb⟩; refine ⟨_, rfl, ?_⟩; have n0_ := Aside0.mk (Kd.R_below (by (with_reducible repeat (first | apply Kd.R_alloc | apply Kd.R_drewN | apply Kd.R_drew)); exact HO_7.out) hb); have n1_ := Aside0.mk (Kd.V_lower (Kd.V_mono (ok' := fun k_ => (w.heap.size ≤ k_) ∧ k_ ≠ gb220) ho0 (fun k_ hk_ => ⟨Or.elim hk_ (fun hs_ => ((Kd.R_types (HO_7.out) BK220.out (by decide)).1 k_ hs_.symm).1) (fun hn_ => (Nat.le_trans (below_size (by repeat (first | (with_reducible first | exact HB.out | apply below_alloc | apply pw_below_drewN | apply below_drew1 | refine below_set ?_ GE220.out) | exact HB.out))) hn_)), Or.elim hk_ (fun hs_ => ((Kd.R_types (HO_7.out) BK220.out (by decide)).1 k_ hs_.symm).2) (fun hn_ => (Kd.freshB (g := gb220) (o := .cells (Ag.agC .u64 65 a0_0) 44 (0, 0)) (by (with_reducible repeat (first | refine blk_drewN ?_ _ | refine blk_drew ?_ | refine blk_alloc ?_ _)); exact BK220.out) k_ hn_))⟩)) (below_size (by repeat (first | (with_reducible first | exact HB.out | apply below_alloc | apply pw_below_drewN | apply below_drew1 | refine below_set ?_ GE220.out) | exact HB.out)))); have n2_ := Aside0.mk (blk_below (g := gb220) (o := .cells (Ag.agC .u64 65 a0_0) 44 (0, 0)) (by (with_reducible repeat (first | refine blk_drewN ?_ _ | refine blk_drew ?_ | refine blk_alloc ?_ _)); exact BK220.out) hb); have n3_ := Aside0.mk (below_step (by repeat (first | (with_reducible first | exact HB.out | apply below_alloc | apply pw_below_drewN | apply below_drew1 | refine below_set ?_ GE220.out) | exact HB.out)) hb); clear HO_7; clear BK220; clear HB; have HO_7 := n0_; have HO233 := n1_; have BK220 := n2_; have HB := n3_; clear n0_ n1_ n2_ n3_; (try clear hb); (try clear hb2); (try clear hk); (try clear hi); (try clear ho0)))
        go_ret
        exact ⟨_, by first | rfl | (simp [errW_none, errW_some] <;> rfl) | (simp only [← hji4, ← hji5]; first | rfl | (simp [errW_none, errW_some] <;> rfl)) | (simp [*, errW_none, errW_some] <;> rfl), by (with_reducible repeat (first | apply Kd.V_alloc | apply Kd.V_drewN | apply Kd.V_drew)); exact Kd.V_mono HO233.out (fun _ hk => hk.1), by repeat (first | (with_reducible first | exact HB.out | apply below_alloc | apply pw_below_drewN | apply below_drew1 | refine below_set ?_ GE220.out) | exact HB.out)⟩
def bitmap_Map_With.f (a0_0 : Nat → Int) (a1 : Int) : Option (Nat → Int) := some (Ag.withF a0_0 a1)
def bitmap_Of.f (l0 : List Int) : Option (Nat → Int) := some (l0.foldl Ag.withF Ag.zeroF)
theorem bitmap_Of.calls (A0 : Option Addr) (c0 : Nat) (l0 : List Int) (r : Nat → Int) (w : World) (hr0 : Kd.C (Kd.int .i64) w A0 l0.length l0) (hc0 : l0.length ≤ c0) (h : bitmap_Of.f l0 = some r) :
    Calls Try.prog 26 #[.slice A0 l0.length c0] w fun e w' => e = .returned (.agg (Ag.agC .u64 65 r)) ∧ Below w.heap.size w w' := by
  obtain rfl := Option.some.inj h
  exact Ag.of_calls A0 c0 l0 w hr0 hc0
def spencelaw18_awake.f (k : Nat)  : Option (Bool) := (bitmap_Of.f (([1, 2] : List Int))).bind fun t237 => ((bitmap_Runs.f k t237 0 4).bind fun t238 => (if (t238.length : Int) = 3 then (if 1 < (t238.length : Int) then (if (rd_T86 t238 1).f2 = true then (if ((rd_T86 t238 1).f0) = 1 then (some (((rd_T86 t238 1).f1) == 3)) else (some false)) else (some false)) else (none)) else (some false)))
theorem spencelaw18_awake.mono : ∀ k, LeO (spencelaw18_awake.f k ) (spencelaw18_awake.f (k + 1) ) := by
  intro  k
  unfold spencelaw18_awake.f
  repeat' first
      | (with_reducible exact bitmap_Runs.mono _ _ _ _)
      | (with_reducible exact LeO.refl _)
      | (with_reducible exact LeO.none _)
      | (with_reducible refine LeO.ite ?_ ?_)
      | (with_reducible refine LeO.bind ?_ (fun _ => ?_))
      | exact bitmap_Runs.mono _ _ _ _
      | exact LeO.none _
      | refine LeO.ite ?_ ?_
      | refine LeO.bind ?_ (fun _ => ?_)
set_option maxHeartbeats 8000000 in
set_option maxRecDepth 100000 in
theorem spencelaw18_awake.calls (k : Nat)  (r : Bool) (w : World) (h : spencelaw18_awake.f k  = some r) :
    Calls Try.prog 24 #[] w fun e w' => e = .returned (.bool r) ∧ Below w.heap.size w w' := by
  have HB := Aside0.mk (Below.refl w.heap.size w)
  have H : ((bitmap_Of.f (([1, 2] : List Int))).bind fun t237 => ((bitmap_Runs.f k t237 0 4).bind fun t238 => (if (t238.length : Int) = 3 then (if 1 < (t238.length : Int) then (if (rd_T86 t238 1).f2 = true then (if ((rd_T86 t238 1).f0) = 1 then (some (((rd_T86 t238 1).f1) == 3)) else (some false)) else (some false)) else (none)) else (some false)))) = some r := h
  clear h
  obtain ⟨y234, hy234⟩ : ∃ y_ : List Int, y_ = (([1, 2] : List Int)) := ⟨_, rfl⟩
  replace H : ((bitmap_Of.f y234).bind fun t237 => ((bitmap_Runs.f k t237 0 4).bind fun t238 => (if (t238.length : Int) = 3 then (if 1 < (t238.length : Int) then (if (rd_T86 t238 1).f2 = true then (if ((rd_T86 t238 1).f0) = 1 then (some (((rd_T86 t238 1).f1) == 3)) else (some false)) else (some false)) else (none)) else (some false)))) = some r := by first | (rw [hy234]; with_reducible exact H) | (have H2_ := (Option.bind_some _ _).symm.trans H; rw [hy234]; with_reducible exact H2_) | (have H2_ := (Option.bind_some _ _).symm.trans H; with_reducible exact H2_) | with_reducible exact H | (rw [hy234]; exact H) | exact H
  have Ny234 := Aside0.mk hy234
  clear hy234
  replace H := Option.bind_eq_some_iff.mp H
  obtain ⟨t237, A10, H⟩ := H
  replace H : ((bitmap_Runs.f k t237 0 4).bind fun t238 => (if (t238.length : Int) = 3 then (if 1 < (t238.length : Int) then (if (rd_T86 t238 1).f2 = true then (if ((rd_T86 t238 1).f0) = 1 then (some (((rd_T86 t238 1).f1) == 3)) else (some false)) else (some false)) else (none)) else (some false))) = some r := H
  have A1 := Aside0.mk A10
  clear A10
  replace H := Option.bind_eq_some_iff.mp H
  obtain ⟨t238, A20, H⟩ := H
  replace H : (if (t238.length : Int) = 3 then (if 1 < (t238.length : Int) then (if (rd_T86 t238 1).f2 = true then (if ((rd_T86 t238 1).f0) = 1 then (some (((rd_T86 t238 1).f1) == 3)) else (some false)) else (some false)) else (none)) else (some false)) = some r := H
  have A2 := Aside0.mk A20
  clear A20
  by_cases c3 : (t238.length : Int) = 3
  · rw [if_pos c3] at H
    have c3b0 : ((t238.length : Int) == 3) = true := beq_iff_eq.mpr c3
    have c3b1 : ((t238.length : Int) != 3) = false := bne_eq_false_iff_eq.mpr c3
    clear c3
    by_cases c4 : 1 < (t238.length : Int)
    · rw [if_pos c4] at H
      have c4b0 : decide (1 < (t238.length : Int)) = true := decide_eq_true c4
      have c4b1 : decide (1 < t238.length) = true := decide_eq_true (by omega)
      clear c4
      obtain ⟨bq5, hbq5⟩ : ∃ b_ : Bool, b_ = ((rd_T86 t238 1).f2) := ⟨_, rfl⟩
      replace H : (if bq5 = true then (if ((rd_T86 t238 1).f0) = 1 then (some (((rd_T86 t238 1).f1) == 3)) else (some false)) else (some false)) = some r := by rw [← hbq5] at H; exact H
      have Nbq5 := Aside0.mk hbq5
      clear hbq5
      by_cases c6 : bq5 = true
      · subst c6
        have H1 : (if ((rd_T86 t238 1).f0) = 1 then (some (((rd_T86 t238 1).f1) == 3)) else (some false)) = some r := by rw [if_pos rfl] at H; exact H
        clear H
        have H := H1
        clear H1
        by_cases c7 : ((rd_T86 t238 1).f0) = 1
        · rw [if_pos c7] at H
          have c7b0 : (((rd_T86 t238 1).f0) == 1) = true := beq_iff_eq.mpr c7
          have c7b1 : (((rd_T86 t238 1).f0) != 1) = false := bne_eq_false_iff_eq.mpr c7
          clear c7
          obtain rfl := Option.some.inj H
          go_enter Try.func24, Try.ntmps24
          go_wp2_with (first | ((with_reducible refine gate_dst (N := 2) rfl ?_); refine Kd.R_lit (Kd.int .i64) _ 3 ?hg (N := 2) ?hd (xs := ([1, 2] : List Int)) (inner := [.int .i64 1, .int .i64 2]) (ok := fun _ => True) (okp := fun _ => True) ?hr ?hp (fun _ hk => hk) trivial (Below.refl _ _) (Nat.le_refl _) (by simp) ?_; (case hd => rfl); (case hg => rfl); (case hr => first | (go_simp; done) | (go_simp; rfl)); (case hp => exact (Reps.one (show Kd.M (Kd.int .i64) _ _ _ 1 [.int .i64 1] from rfl) (Reps.one (show Kd.M (Kd.int .i64) _ _ _ 2 [.int .i64 2] from rfl) (Reps.none _ _)))); intro v235 w8 ho9 hb hg_ hnew_; clear hg_ hnew_; (first | rw [← Ny234.out] at ho9 | (simp only [Int.reduceToNat] at ho9; rw [← Ny234.out] at ho9)); have n0_ := Aside0.mk (Kd.R_lower ho9 (below_size (by repeat (first | (with_reducible first | exact HB.out | apply below_alloc | apply pw_below_drewN | apply below_drew1) | exact HB.out)))); have n1_ := Aside0.mk (below_step (by repeat (first | (with_reducible first | exact HB.out | apply below_alloc | apply pw_below_drewN | apply below_drew1) | exact HB.out)) hb); clear HB; have HO236 := n0_; have HB := n1_; clear n0_ n1_; clear hb ho9; obtain ⟨Ao10, co10, eo10⟩ := Kd.R_slice HO236.out; subst eo10) | ((with_reducible refine gate_callee (f := 26) rfl ?_); refine goesL_ (some 3) rfl rfl Try.func26 (by kernel_rfl) rfl #[.slice Ao10 y234.length co10] rfl (by (try simp only [List.map_toArray, List.map_cons, List.map_nil]); first | done | rfl | (simp only [List.length_drop, List.length_take]; rfl)) ?_; (with_reducible refine (bitmap_Of.calls _ _ y234 t237 _ ?side1 ?side2 A1.out).mono ?_); (case side1 => repeat (first | exact (Kd.R_reads' HO236.out).2.2 | (with_reducible refine Kd.C_alloc ?_ _) | (with_reducible refine Kd.C_drewN ?_ _) | (with_reducible refine Kd.C_drew ?_))); (case side2 => exact (Kd.R_reads' HO236.out).2.1); rintro e w11 ⟨rfl, hb⟩; refine ⟨_, rfl, ?_⟩; have n0_ := Aside0.mk (Kd.R_below (by (with_reducible repeat (first | apply Kd.R_alloc | apply Kd.R_drewN | apply Kd.R_drew)); exact HO236.out) hb); have n1_ := Aside0.mk (below_step (by repeat (first | (with_reducible first | exact HB.out | apply below_alloc | apply pw_below_drewN | apply below_drew1) | exact HB.out)) hb); clear HO236; clear HB; have HO236 := n0_; have HB := n1_; clear n0_ n1_; (try clear hb); (try clear hb2); (try clear hk); (try clear hi)) | ((with_reducible refine gate_callee (f := 25) rfl ?_); refine goesL_ (some 4) rfl rfl Try.func25 (by kernel_rfl) rfl #[.agg (Ag.agC .u64 65 t237), .int .i64 0, .int .i64 4] rfl (by (try simp only [List.map_toArray, List.map_cons, List.map_nil]); first | done | rfl | (simp only [List.length_drop, List.length_take]; rfl)) ?_; (with_reducible refine (bitmap_Runs.calls k t237 0 4 t238 _ A2.out).mono ?_); rintro e w12 ⟨v239, rfl, ho0, hb⟩; refine ⟨_, rfl, ?_⟩; have n0_ := Aside0.mk (Kd.R_below (by (with_reducible repeat (first | apply Kd.R_alloc | apply Kd.R_drewN | apply Kd.R_drew)); exact HO236.out) hb); have n1_ := Aside0.mk (Kd.V_lower (Kd.V_mono (ok' := fun k_ => some k_ ≠ (.slice Ao10 y234.length co10 : Value).ownBlock) ho0 (fun k_ hk_ => (Kd.fresh' (Kd.R_lt (by (with_reducible repeat (first | apply Kd.R_alloc | apply Kd.R_drewN | apply Kd.R_drew)); exact HO236.out)) k_ hk_))) (below_size (by repeat (first | (with_reducible first | exact HB.out | apply below_alloc | apply pw_below_drewN | apply below_drew1) | exact HB.out)))); have n2_ := Aside0.mk (below_step (by repeat (first | (with_reducible first | exact HB.out | apply below_alloc | apply pw_below_drewN | apply below_drew1) | exact HB.out)) hb); clear HO236; clear HB; have HO236 := n0_; have HO240 := n1_; have HB := n2_; clear n0_ n1_ n2_; (try clear hb); (try clear hb2); (try clear hk); (try clear hi); (try clear ho0); obtain ⟨Ao13, co13, eo13⟩ := Kd.V_slice HO240.out; subst eo13; have p241 : 0 ≤ (1 : Int) := (by omega); have q241 : 1 < (t238.length : Int) := of_decide_eq_true (by first | (with_reducible assumption) | assumption); obtain ⟨ad241, e241, hx241_0, hx241_1, hx241_2⟩ := at_T86 (Kd.V_reads' HO240.out).2.2 1 p241 q241; (try rw [← Nbq5.out] at hx241_2); cases e241; (try simp only [show (1 : Int).toNat = 1 from rfl, Nat.reduceMul, Nat.reduceEqDiff, Go.Addr.add, ↓reduceIte] at hx241_0); (try simp only [show (1 : Int).toNat = 1 from rfl, Nat.reduceMul, Nat.reduceEqDiff, Go.Addr.add, ↓reduceIte] at hx241_1); (try simp only [show (1 : Int).toNat = 1 from rfl, Nat.reduceMul, Nat.reduceEqDiff, Go.Addr.add, ↓reduceIte] at hx241_2); have qi241 : (1 < t238.length) = True := eq_true (by omega); (try rw [show ((1 : Int)).toNat = 1 from rfl] at hx241_0); (try rw [show 1 * 3 = 3 from rfl] at hx241_0); (try rw [show ((1 : Int)).toNat = 1 from rfl] at hx241_1); (try rw [show 1 * 3 = 3 from rfl] at hx241_1); (try rw [show ((1 : Int)).toNat = 1 from rfl] at hx241_2); (try rw [show 1 * 3 = 3 from rfl] at hx241_2); replace p241 := eq_true p241; replace q241 := eq_true q241; have p242 : 0 ≤ (1 : Int) := (by omega); have q242 : 1 < (t238.length : Int) := of_decide_eq_true (by first | (with_reducible assumption) | assumption); obtain ⟨ad242, e242, hx242_0, hx242_1, hx242_2⟩ := at_T86 (Kd.V_reads' HO240.out).2.2 1 p242 q242; (try rw [← Nbq5.out] at hx242_2); obtain rfl : ad241 = ad242 := (by injection e242); (try simp only [show (1 : Int).toNat = 1 from rfl, Nat.reduceMul, Nat.reduceEqDiff, Go.Addr.add, ↓reduceIte] at hx242_0); (try simp only [show (1 : Int).toNat = 1 from rfl, Nat.reduceMul, Nat.reduceEqDiff, Go.Addr.add, ↓reduceIte] at hx242_1); (try simp only [show (1 : Int).toNat = 1 from rfl, Nat.reduceMul, Nat.reduceEqDiff, Go.Addr.add, ↓reduceIte] at hx242_2); have qi242 : (1 < t238.length) = True := eq_true (by omega); (try rw [show ((1 : Int)).toNat = 1 from rfl] at hx242_0); (try rw [show 1 * 3 = 3 from rfl] at hx242_0); (try rw [show ((1 : Int)).toNat = 1 from rfl] at hx242_1); (try rw [show 1 * 3 = 3 from rfl] at hx242_1); (try rw [show ((1 : Int)).toNat = 1 from rfl] at hx242_2); (try rw [show 1 * 3 = 3 from rfl] at hx242_2); replace p242 := eq_true p242; replace q242 := eq_true q242; have p243 : 0 ≤ (1 : Int) := (by omega); have q243 : 1 < (t238.length : Int) := of_decide_eq_true (by first | (with_reducible assumption) | assumption); obtain ⟨ad243, e243, hx243_0, hx243_1, hx243_2⟩ := at_T86 (Kd.V_reads' HO240.out).2.2 1 p243 q243; (try rw [← Nbq5.out] at hx243_2); obtain rfl : ad241 = ad243 := (by injection e243); (try simp only [show (1 : Int).toNat = 1 from rfl, Nat.reduceMul, Nat.reduceEqDiff, Go.Addr.add, ↓reduceIte] at hx243_0); (try simp only [show (1 : Int).toNat = 1 from rfl, Nat.reduceMul, Nat.reduceEqDiff, Go.Addr.add, ↓reduceIte] at hx243_1); (try simp only [show (1 : Int).toNat = 1 from rfl, Nat.reduceMul, Nat.reduceEqDiff, Go.Addr.add, ↓reduceIte] at hx243_2); have qi243 : (1 < t238.length) = True := eq_true (by omega); (try rw [show ((1 : Int)).toNat = 1 from rfl] at hx243_0); (try rw [show 1 * 3 = 3 from rfl] at hx243_0); (try rw [show ((1 : Int)).toNat = 1 from rfl] at hx243_1); (try rw [show 1 * 3 = 3 from rfl] at hx243_1); (try rw [show ((1 : Int)).toNat = 1 from rfl] at hx243_2); (try rw [show 1 * 3 = 3 from rfl] at hx243_2); replace p243 := eq_true p243; replace q243 := eq_true q243))
          go_ret
          exact ⟨by first | rfl | exact ne_empty _ | exact eq_empty _ | (simp [errW_none, errW_some] <;> rfl) | (simp [*, errW_none, errW_some] <;> rfl), by repeat (first | (with_reducible first | exact HB.out | apply below_alloc | apply pw_below_drewN | apply below_drew1) | exact HB.out)⟩
        · rw [if_neg c7] at H
          have c7b0 : (((rd_T86 t238 1).f0) == 1) = false := beq_eq_false_iff_ne.mpr c7
          have c7b1 : (((rd_T86 t238 1).f0) != 1) = true := bne_iff_ne.mpr c7
          obtain rfl := Option.some.inj H
          go_enter Try.func24, Try.ntmps24
          go_wp2_with (first | ((with_reducible refine gate_dst (N := 2) rfl ?_); refine Kd.R_lit (Kd.int .i64) _ 3 ?hg (N := 2) ?hd (xs := ([1, 2] : List Int)) (inner := [.int .i64 1, .int .i64 2]) (ok := fun _ => True) (okp := fun _ => True) ?hr ?hp (fun _ hk => hk) trivial (Below.refl _ _) (Nat.le_refl _) (by simp) ?_; (case hd => rfl); (case hg => rfl); (case hr => first | (go_simp; done) | (go_simp; rfl)); (case hp => exact (Reps.one (show Kd.M (Kd.int .i64) _ _ _ 1 [.int .i64 1] from rfl) (Reps.one (show Kd.M (Kd.int .i64) _ _ _ 2 [.int .i64 2] from rfl) (Reps.none _ _)))); intro v235 w14 ho15 hb hg_ hnew_; clear hg_ hnew_; (first | rw [← Ny234.out] at ho15 | (simp only [Int.reduceToNat] at ho15; rw [← Ny234.out] at ho15)); have n0_ := Aside0.mk (Kd.R_lower ho15 (below_size (by repeat (first | (with_reducible first | exact HB.out | apply below_alloc | apply pw_below_drewN | apply below_drew1) | exact HB.out)))); have n1_ := Aside0.mk (below_step (by repeat (first | (with_reducible first | exact HB.out | apply below_alloc | apply pw_below_drewN | apply below_drew1) | exact HB.out)) hb); clear HB; have HO236 := n0_; have HB := n1_; clear n0_ n1_; clear hb ho15; obtain ⟨Ao16, co16, eo16⟩ := Kd.R_slice HO236.out; subst eo16) | ((with_reducible refine gate_callee (f := 26) rfl ?_); refine goesL_ (some 3) rfl rfl Try.func26 (by kernel_rfl) rfl #[.slice Ao16 y234.length co16] rfl (by (try simp only [List.map_toArray, List.map_cons, List.map_nil]); first | done | rfl | (simp only [List.length_drop, List.length_take]; rfl)) ?_; (with_reducible refine (bitmap_Of.calls _ _ y234 t237 _ ?side1 ?side2 A1.out).mono ?_); (case side1 => repeat (first | exact (Kd.R_reads' HO236.out).2.2 | (with_reducible refine Kd.C_alloc ?_ _) | (with_reducible refine Kd.C_drewN ?_ _) | (with_reducible refine Kd.C_drew ?_))); (case side2 => exact (Kd.R_reads' HO236.out).2.1); rintro e w17 ⟨rfl, hb⟩; refine ⟨_, rfl, ?_⟩; have n0_ := Aside0.mk (Kd.R_below (by (with_reducible repeat (first | apply Kd.R_alloc | apply Kd.R_drewN | apply Kd.R_drew)); exact HO236.out) hb); have n1_ := Aside0.mk (below_step (by repeat (first | (with_reducible first | exact HB.out | apply below_alloc | apply pw_below_drewN | apply below_drew1) | exact HB.out)) hb); clear HO236; clear HB; have HO236 := n0_; have HB := n1_; clear n0_ n1_; (try clear hb); (try clear hb2); (try clear hk); (try clear hi)) | ((with_reducible refine gate_callee (f := 25) rfl ?_); refine goesL_ (some 4) rfl rfl Try.func25 (by kernel_rfl) rfl #[.agg (Ag.agC .u64 65 t237), .int .i64 0, .int .i64 4] rfl (by (try simp only [List.map_toArray, List.map_cons, List.map_nil]); first | done | rfl | (simp only [List.length_drop, List.length_take]; rfl)) ?_; (with_reducible refine (bitmap_Runs.calls k t237 0 4 t238 _ A2.out).mono ?_); rintro e w18 ⟨v239, rfl, ho0, hb⟩; refine ⟨_, rfl, ?_⟩; have n0_ := Aside0.mk (Kd.R_below (by (with_reducible repeat (first | apply Kd.R_alloc | apply Kd.R_drewN | apply Kd.R_drew)); exact HO236.out) hb); have n1_ := Aside0.mk (Kd.V_lower (Kd.V_mono (ok' := fun k_ => some k_ ≠ (.slice Ao16 y234.length co16 : Value).ownBlock) ho0 (fun k_ hk_ => (Kd.fresh' (Kd.R_lt (by (with_reducible repeat (first | apply Kd.R_alloc | apply Kd.R_drewN | apply Kd.R_drew)); exact HO236.out)) k_ hk_))) (below_size (by repeat (first | (with_reducible first | exact HB.out | apply below_alloc | apply pw_below_drewN | apply below_drew1) | exact HB.out)))); have n2_ := Aside0.mk (below_step (by repeat (first | (with_reducible first | exact HB.out | apply below_alloc | apply pw_below_drewN | apply below_drew1) | exact HB.out)) hb); clear HO236; clear HB; have HO236 := n0_; have HO240 := n1_; have HB := n2_; clear n0_ n1_ n2_; (try clear hb); (try clear hb2); (try clear hk); (try clear hi); (try clear ho0); obtain ⟨Ao19, co19, eo19⟩ := Kd.V_slice HO240.out; subst eo19; have p241 : 0 ≤ (1 : Int) := (by omega); have q241 : 1 < (t238.length : Int) := of_decide_eq_true (by first | (with_reducible assumption) | assumption); obtain ⟨ad241, e241, hx241_0, hx241_1, hx241_2⟩ := at_T86 (Kd.V_reads' HO240.out).2.2 1 p241 q241; (try rw [← Nbq5.out] at hx241_2); cases e241; (try simp only [show (1 : Int).toNat = 1 from rfl, Nat.reduceMul, Nat.reduceEqDiff, Go.Addr.add, ↓reduceIte] at hx241_0); (try simp only [show (1 : Int).toNat = 1 from rfl, Nat.reduceMul, Nat.reduceEqDiff, Go.Addr.add, ↓reduceIte] at hx241_1); (try simp only [show (1 : Int).toNat = 1 from rfl, Nat.reduceMul, Nat.reduceEqDiff, Go.Addr.add, ↓reduceIte] at hx241_2); have qi241 : (1 < t238.length) = True := eq_true (by omega); (try rw [show ((1 : Int)).toNat = 1 from rfl] at hx241_0); (try rw [show 1 * 3 = 3 from rfl] at hx241_0); (try rw [show ((1 : Int)).toNat = 1 from rfl] at hx241_1); (try rw [show 1 * 3 = 3 from rfl] at hx241_1); (try rw [show ((1 : Int)).toNat = 1 from rfl] at hx241_2); (try rw [show 1 * 3 = 3 from rfl] at hx241_2); replace p241 := eq_true p241; replace q241 := eq_true q241; have p242 : 0 ≤ (1 : Int) := (by omega); have q242 : 1 < (t238.length : Int) := of_decide_eq_true (by first | (with_reducible assumption) | assumption); obtain ⟨ad242, e242, hx242_0, hx242_1, hx242_2⟩ := at_T86 (Kd.V_reads' HO240.out).2.2 1 p242 q242; (try rw [← Nbq5.out] at hx242_2); obtain rfl : ad241 = ad242 := (by injection e242); (try simp only [show (1 : Int).toNat = 1 from rfl, Nat.reduceMul, Nat.reduceEqDiff, Go.Addr.add, ↓reduceIte] at hx242_0); (try simp only [show (1 : Int).toNat = 1 from rfl, Nat.reduceMul, Nat.reduceEqDiff, Go.Addr.add, ↓reduceIte] at hx242_1); (try simp only [show (1 : Int).toNat = 1 from rfl, Nat.reduceMul, Nat.reduceEqDiff, Go.Addr.add, ↓reduceIte] at hx242_2); have qi242 : (1 < t238.length) = True := eq_true (by omega); (try rw [show ((1 : Int)).toNat = 1 from rfl] at hx242_0); (try rw [show 1 * 3 = 3 from rfl] at hx242_0); (try rw [show ((1 : Int)).toNat = 1 from rfl] at hx242_1); (try rw [show 1 * 3 = 3 from rfl] at hx242_1); (try rw [show ((1 : Int)).toNat = 1 from rfl] at hx242_2); (try rw [show 1 * 3 = 3 from rfl] at hx242_2); replace p242 := eq_true p242; replace q242 := eq_true q242))
          go_ret
          exact ⟨by first | rfl | exact ne_empty _ | exact eq_empty _ | (simp [errW_none, errW_some] <;> rfl) | (simp [*, errW_none, errW_some] <;> rfl), by repeat (first | (with_reducible first | exact HB.out | apply below_alloc | apply pw_below_drewN | apply below_drew1) | exact HB.out)⟩
      · replace c6 := Bool.eq_false_iff.mpr c6
        subst c6
        have H1 : (some false) = some r := by rw [if_neg (show ¬ (false = true) by decide)] at H; exact H
        clear H
        have H := H1
        clear H1
        obtain rfl := Option.some.inj H
        go_enter Try.func24, Try.ntmps24
        go_wp2_with (first | ((with_reducible refine gate_dst (N := 2) rfl ?_); refine Kd.R_lit (Kd.int .i64) _ 3 ?hg (N := 2) ?hd (xs := ([1, 2] : List Int)) (inner := [.int .i64 1, .int .i64 2]) (ok := fun _ => True) (okp := fun _ => True) ?hr ?hp (fun _ hk => hk) trivial (Below.refl _ _) (Nat.le_refl _) (by simp) ?_; (case hd => rfl); (case hg => rfl); (case hr => first | (go_simp; done) | (go_simp; rfl)); (case hp => exact (Reps.one (show Kd.M (Kd.int .i64) _ _ _ 1 [.int .i64 1] from rfl) (Reps.one (show Kd.M (Kd.int .i64) _ _ _ 2 [.int .i64 2] from rfl) (Reps.none _ _)))); intro v235 w20 ho21 hb hg_ hnew_; clear hg_ hnew_; (first | rw [← Ny234.out] at ho21 | (simp only [Int.reduceToNat] at ho21; rw [← Ny234.out] at ho21)); have n0_ := Aside0.mk (Kd.R_lower ho21 (below_size (by repeat (first | (with_reducible first | exact HB.out | apply below_alloc | apply pw_below_drewN | apply below_drew1) | exact HB.out)))); have n1_ := Aside0.mk (below_step (by repeat (first | (with_reducible first | exact HB.out | apply below_alloc | apply pw_below_drewN | apply below_drew1) | exact HB.out)) hb); clear HB; have HO236 := n0_; have HB := n1_; clear n0_ n1_; clear hb ho21; obtain ⟨Ao22, co22, eo22⟩ := Kd.R_slice HO236.out; subst eo22) | ((with_reducible refine gate_callee (f := 26) rfl ?_); refine goesL_ (some 3) rfl rfl Try.func26 (by kernel_rfl) rfl #[.slice Ao22 y234.length co22] rfl (by (try simp only [List.map_toArray, List.map_cons, List.map_nil]); first | done | rfl | (simp only [List.length_drop, List.length_take]; rfl)) ?_; (with_reducible refine (bitmap_Of.calls _ _ y234 t237 _ ?side1 ?side2 A1.out).mono ?_); (case side1 => repeat (first | exact (Kd.R_reads' HO236.out).2.2 | (with_reducible refine Kd.C_alloc ?_ _) | (with_reducible refine Kd.C_drewN ?_ _) | (with_reducible refine Kd.C_drew ?_))); (case side2 => exact (Kd.R_reads' HO236.out).2.1); rintro e w23 ⟨rfl, hb⟩; refine ⟨_, rfl, ?_⟩; have n0_ := Aside0.mk (Kd.R_below (by (with_reducible repeat (first | apply Kd.R_alloc | apply Kd.R_drewN | apply Kd.R_drew)); exact HO236.out) hb); have n1_ := Aside0.mk (below_step (by repeat (first | (with_reducible first | exact HB.out | apply below_alloc | apply pw_below_drewN | apply below_drew1) | exact HB.out)) hb); clear HO236; clear HB; have HO236 := n0_; have HB := n1_; clear n0_ n1_; (try clear hb); (try clear hb2); (try clear hk); (try clear hi)) | ((with_reducible refine gate_callee (f := 25) rfl ?_); refine goesL_ (some 4) rfl rfl Try.func25 (by kernel_rfl) rfl #[.agg (Ag.agC .u64 65 t237), .int .i64 0, .int .i64 4] rfl (by (try simp only [List.map_toArray, List.map_cons, List.map_nil]); first | done | rfl | (simp only [List.length_drop, List.length_take]; rfl)) ?_; (with_reducible refine (bitmap_Runs.calls k t237 0 4 t238 _ A2.out).mono ?_); rintro e w24 ⟨v239, rfl, ho0, hb⟩; refine ⟨_, rfl, ?_⟩; have n0_ := Aside0.mk (Kd.R_below (by (with_reducible repeat (first | apply Kd.R_alloc | apply Kd.R_drewN | apply Kd.R_drew)); exact HO236.out) hb); have n1_ := Aside0.mk (Kd.V_lower (Kd.V_mono (ok' := fun k_ => some k_ ≠ (.slice Ao22 y234.length co22 : Value).ownBlock) ho0 (fun k_ hk_ => (Kd.fresh' (Kd.R_lt (by (with_reducible repeat (first | apply Kd.R_alloc | apply Kd.R_drewN | apply Kd.R_drew)); exact HO236.out)) k_ hk_))) (below_size (by repeat (first | (with_reducible first | exact HB.out | apply below_alloc | apply pw_below_drewN | apply below_drew1) | exact HB.out)))); have n2_ := Aside0.mk (below_step (by repeat (first | (with_reducible first | exact HB.out | apply below_alloc | apply pw_below_drewN | apply below_drew1) | exact HB.out)) hb); clear HO236; clear HB; have HO236 := n0_; have HO240 := n1_; have HB := n2_; clear n0_ n1_ n2_; (try clear hb); (try clear hb2); (try clear hk); (try clear hi); (try clear ho0); obtain ⟨Ao25, co25, eo25⟩ := Kd.V_slice HO240.out; subst eo25; have p241 : 0 ≤ (1 : Int) := (by omega); have q241 : 1 < (t238.length : Int) := of_decide_eq_true (by first | (with_reducible assumption) | assumption); obtain ⟨ad241, e241, hx241_0, hx241_1, hx241_2⟩ := at_T86 (Kd.V_reads' HO240.out).2.2 1 p241 q241; (try rw [← Nbq5.out] at hx241_2); cases e241; (try simp only [show (1 : Int).toNat = 1 from rfl, Nat.reduceMul, Nat.reduceEqDiff, Go.Addr.add, ↓reduceIte] at hx241_0); (try simp only [show (1 : Int).toNat = 1 from rfl, Nat.reduceMul, Nat.reduceEqDiff, Go.Addr.add, ↓reduceIte] at hx241_1); (try simp only [show (1 : Int).toNat = 1 from rfl, Nat.reduceMul, Nat.reduceEqDiff, Go.Addr.add, ↓reduceIte] at hx241_2); have qi241 : (1 < t238.length) = True := eq_true (by omega); (try rw [show ((1 : Int)).toNat = 1 from rfl] at hx241_0); (try rw [show 1 * 3 = 3 from rfl] at hx241_0); (try rw [show ((1 : Int)).toNat = 1 from rfl] at hx241_1); (try rw [show 1 * 3 = 3 from rfl] at hx241_1); (try rw [show ((1 : Int)).toNat = 1 from rfl] at hx241_2); (try rw [show 1 * 3 = 3 from rfl] at hx241_2); replace p241 := eq_true p241; replace q241 := eq_true q241))
        go_ret
        exact ⟨by first | rfl | exact ne_empty _ | exact eq_empty _ | (simp [errW_none, errW_some] <;> rfl) | (simp [*, errW_none, errW_some] <;> rfl), by repeat (first | (with_reducible first | exact HB.out | apply below_alloc | apply pw_below_drewN | apply below_drew1) | exact HB.out)⟩
    · rw [if_neg c4] at H
      exact absurd H (by simp)
  · rw [if_neg c3] at H
    have c3b0 : ((t238.length : Int) == 3) = false := beq_eq_false_iff_ne.mpr c3
    have c3b1 : ((t238.length : Int) != 3) = true := bne_iff_ne.mpr c3
    obtain rfl := Option.some.inj H
    go_enter Try.func24, Try.ntmps24
    go_wp2_with (first | ((with_reducible refine gate_dst (N := 2) rfl ?_); refine Kd.R_lit (Kd.int .i64) _ 3 ?hg (N := 2) ?hd (xs := ([1, 2] : List Int)) (inner := [.int .i64 1, .int .i64 2]) (ok := fun _ => True) (okp := fun _ => True) ?hr ?hp (fun _ hk => hk) trivial (Below.refl _ _) (Nat.le_refl _) (by simp) ?_; (case hd => rfl); (case hg => rfl); (case hr => first | (go_simp; done) | (go_simp; rfl)); (case hp => exact (Reps.one (show Kd.M (Kd.int .i64) _ _ _ 1 [.int .i64 1] from rfl) (Reps.one (show Kd.M (Kd.int .i64) _ _ _ 2 [.int .i64 2] from rfl) (Reps.none _ _)))); intro v235 w26 ho27 hb hg_ hnew_; clear hg_ hnew_; (first | rw [← Ny234.out] at ho27 | (simp only [Int.reduceToNat] at ho27; rw [← Ny234.out] at ho27)); have n0_ := Aside0.mk (Kd.R_lower ho27 (below_size (by repeat (first | (with_reducible first | exact HB.out | apply below_alloc | apply pw_below_drewN | apply below_drew1) | exact HB.out)))); have n1_ := Aside0.mk (below_step (by repeat (first | (with_reducible first | exact HB.out | apply below_alloc | apply pw_below_drewN | apply below_drew1) | exact HB.out)) hb); clear HB; have HO236 := n0_; have HB := n1_; clear n0_ n1_; clear hb ho27; obtain ⟨Ao28, co28, eo28⟩ := Kd.R_slice HO236.out; subst eo28) | ((with_reducible refine gate_callee (f := 26) rfl ?_); refine goesL_ (some 3) rfl rfl Try.func26 (by kernel_rfl) rfl #[.slice Ao28 y234.length co28] rfl (by (try simp only [List.map_toArray, List.map_cons, List.map_nil]); first | done | rfl | (simp only [List.length_drop, List.length_take]; rfl)) ?_; (with_reducible refine (bitmap_Of.calls _ _ y234 t237 _ ?side1 ?side2 A1.out).mono ?_); (case side1 => repeat (first | exact (Kd.R_reads' HO236.out).2.2 | (with_reducible refine Kd.C_alloc ?_ _) | (with_reducible refine Kd.C_drewN ?_ _) | (with_reducible refine Kd.C_drew ?_))); (case side2 => exact (Kd.R_reads' HO236.out).2.1); rintro e w29 ⟨rfl, hb⟩; refine ⟨_, rfl, ?_⟩; have n0_ := Aside0.mk (Kd.R_below (by (with_reducible repeat (first | apply Kd.R_alloc | apply Kd.R_drewN | apply Kd.R_drew)); exact HO236.out) hb); have n1_ := Aside0.mk (below_step (by repeat (first | (with_reducible first | exact HB.out | apply below_alloc | apply pw_below_drewN | apply below_drew1) | exact HB.out)) hb); clear HO236; clear HB; have HO236 := n0_; have HB := n1_; clear n0_ n1_; (try clear hb); (try clear hb2); (try clear hk); (try clear hi)) | ((with_reducible refine gate_callee (f := 25) rfl ?_); refine goesL_ (some 4) rfl rfl Try.func25 (by kernel_rfl) rfl #[.agg (Ag.agC .u64 65 t237), .int .i64 0, .int .i64 4] rfl (by (try simp only [List.map_toArray, List.map_cons, List.map_nil]); first | done | rfl | (simp only [List.length_drop, List.length_take]; rfl)) ?_; (with_reducible refine (bitmap_Runs.calls k t237 0 4 t238 _ A2.out).mono ?_); rintro e w30 ⟨v239, rfl, ho0, hb⟩; refine ⟨_, rfl, ?_⟩; have n0_ := Aside0.mk (Kd.R_below (by (with_reducible repeat (first | apply Kd.R_alloc | apply Kd.R_drewN | apply Kd.R_drew)); exact HO236.out) hb); have n1_ := Aside0.mk (Kd.V_lower (Kd.V_mono (ok' := fun k_ => some k_ ≠ (.slice Ao28 y234.length co28 : Value).ownBlock) ho0 (fun k_ hk_ => (Kd.fresh' (Kd.R_lt (by (with_reducible repeat (first | apply Kd.R_alloc | apply Kd.R_drewN | apply Kd.R_drew)); exact HO236.out)) k_ hk_))) (below_size (by repeat (first | (with_reducible first | exact HB.out | apply below_alloc | apply pw_below_drewN | apply below_drew1) | exact HB.out)))); have n2_ := Aside0.mk (below_step (by repeat (first | (with_reducible first | exact HB.out | apply below_alloc | apply pw_below_drewN | apply below_drew1) | exact HB.out)) hb); clear HO236; clear HB; have HO236 := n0_; have HO240 := n1_; have HB := n2_; clear n0_ n1_ n2_; (try clear hb); (try clear hb2); (try clear hk); (try clear hi); (try clear ho0); obtain ⟨Ao31, co31, eo31⟩ := Kd.V_slice HO240.out; subst eo31))
    go_ret
    exact ⟨by first | rfl | exact ne_empty _ | exact eq_empty _ | (simp [errW_none, errW_some] <;> rfl) | (simp [*, errW_none, errW_some] <;> rfl), by repeat (first | (with_reducible first | exact HB.out | apply below_alloc | apply pw_below_drewN | apply below_drew1) | exact HB.out)⟩
def spenceref24_Runs.l0 : Nat → List (S86) → List (S86) → Int → Int → Option (Bool)
  | 0, _, _, _, _ => none
  | k + 1, x0, x1, x12, x13 => if x13 < x12 then (if 0 ≤ x13 then (if x13 < (x0.length : Int) then (if x13 < (x1.length : Int) then (if (!(((rd_T86 x0 x13).f0) == ((rd_T86 x1 x13).f0)) || (!(((rd_T86 x0 x13).f1) == ((rd_T86 x1 x13).f1)) || (!(((rd_T86 x0 x13).f2) == ((rd_T86 x1 x13).f2))))) = true then (some false) else (spenceref24_Runs.l0 k x0 x1 x12 (wrap64 (x13 + 1)))) else (none)) else (none)) else (none)) else (some true)
def spenceref24_Runs.f (k : Nat) (l0 : List (S86)) (l1 : List (S86)) : Option (Bool) := if (l0.length : Int) = (l1.length : Int) then (spenceref24_Runs.l0 k l0 l1 (l0.length : Int) 0) else (some false)
theorem spenceref24_Runs.mono_l : ∀ k, (∀ y0 y1 y2 y3, LeO (spenceref24_Runs.l0 k y0 y1 y2 y3) (spenceref24_Runs.l0 (k + 1) y0 y1 y2 y3))
  | 0 => fun _ _ _ _ r h => by simp [spenceref24_Runs.l0] at h
  | k + 1 => by
    have ih0 := spenceref24_Runs.mono_l k
    · intro y0 y1 y2 y3
      unfold spenceref24_Runs.l0
      repeat' first
      | (with_reducible exact ih0 _ _ _ _)
      | (with_reducible exact LeO.refl _)
      | (with_reducible exact LeO.none _)
      | (with_reducible refine LeO.ite ?_ ?_)
      | (with_reducible refine LeO.bind ?_ (fun _ => ?_))
      | exact ih0 _ _ _ _
      | exact LeO.none _
      | refine LeO.ite ?_ ?_
      | refine LeO.bind ?_ (fun _ => ?_)
theorem spenceref24_Runs.mono : ∀ a0 a1 k, LeO (spenceref24_Runs.f k a0 a1) (spenceref24_Runs.f (k + 1) a0 a1) := by
  intro a0 a1 k
  have ih0 := spenceref24_Runs.mono_l k
  unfold spenceref24_Runs.f
  repeat' first
      | (with_reducible exact ih0 _ _ _ _)
      | (with_reducible exact LeO.refl _)
      | (with_reducible exact LeO.none _)
      | (with_reducible refine LeO.ite ?_ ?_)
      | (with_reducible refine LeO.bind ?_ (fun _ => ?_))
      | exact ih0 _ _ _ _
      | exact LeO.none _
      | refine LeO.ite ?_ ?_
      | refine LeO.bind ?_ (fun _ => ?_)
end Go.Proofs.Ytmojlhpkidbklaa.PAll
namespace Go.Proofs.Ytmojlhpkidbklaa.PAll
open Go.RowKit Go.Proofs.Ytmojlhpkidbklaa.Xw Go.Proofs.YtmojlhpkidbklaaW.PrintWords Go.Proofs.YtmojlhpkidbklaaW.PrintLast Go.Proofs.YtmojlhpkidbklaaW.PrintMore
attribute [local go_sem] max2_int min2_int max_two min_two max_three min_three max_four min_four   -- for this text's walks alone
set_option linter.unusedVariables false
set_option linter.unusedSimpArgs false
def spenceref01_In.l0 : Nat → Int → List Int → Int → Int → Option (Bool)
  | 0, _, _, _, _ => none
  | k + 1, x1, x7, x8, x9 => if x9 < x8 then (if 0 ≤ x9 then (if x9 < (x7.length : Int) then (if (rd x7 x9) = x1 then (some true) else (spenceref01_In.l0 k x1 x7 x8 (wrap64 (x9 + 1)))) else (none)) else (none)) else (some false)
def spenceref01_In.f (k : Nat) (l0 : List Int) (a1 : Int) : Option (Bool) := spenceref01_In.l0 k a1 l0 (l0.length : Int) 0
theorem spenceref01_In.mono_l : ∀ k, (∀ y0 y1 y2 y3, LeO (spenceref01_In.l0 k y0 y1 y2 y3) (spenceref01_In.l0 (k + 1) y0 y1 y2 y3))
  | 0 => fun _ _ _ _ r h => by simp [spenceref01_In.l0] at h
  | k + 1 => by
    have ih0 := spenceref01_In.mono_l k
    · intro y0 y1 y2 y3
      unfold spenceref01_In.l0
      repeat' first
      | (with_reducible exact ih0 _ _ _ _)
      | (with_reducible exact LeO.refl _)
      | (with_reducible exact LeO.none _)
      | (with_reducible refine LeO.ite ?_ ?_)
      | (with_reducible refine LeO.bind ?_ (fun _ => ?_))
      | exact ih0 _ _ _ _
      | exact LeO.none _
      | refine LeO.ite ?_ ?_
      | refine LeO.bind ?_ (fun _ => ?_)
theorem spenceref01_In.mono : ∀ a0 a1 k, LeO (spenceref01_In.f k a0 a1) (spenceref01_In.f (k + 1) a0 a1) := by
  intro a0 a1 k
  have ih0 := spenceref01_In.mono_l k
  unfold spenceref01_In.f
  repeat' first
      | (with_reducible exact ih0 _ _ _ _)
      | (with_reducible exact LeO.refl _)
      | (with_reducible exact LeO.none _)
      | (with_reducible refine LeO.ite ?_ ?_)
      | (with_reducible refine LeO.bind ?_ (fun _ => ?_))
      | exact ih0 _ _ _ _
      | exact LeO.none _
      | refine LeO.ite ?_ ?_
      | refine LeO.bind ?_ (fun _ => ?_)
set_option maxHeartbeats 8000000 in
set_option maxRecDepth 100000 in
theorem spenceref01_In.calls (k : Nat) (A0 : Option Addr) (c0 : Nat) (l0 : List Int) (a1 : Int) (r : Bool) (w : World) (hr0 : Kd.C (Kd.int .i64) w A0 l0.length l0) (hc0 : l0.length ≤ c0) (h : spenceref01_In.f k l0 a1 = some r) :
    Calls Try.prog 29 #[.slice A0 l0.length c0, .int .i64 a1] w fun e w' => e = .returned (.bool r) ∧ Drawn0 w w' := by
  have HR0 := Aside0.mk hr0
  have HC0 := Aside0.mk hc0
  clear hr0 hc0
  have H : (spenceref01_In.l0 k a1 l0 (l0.length : Int) 0) = some r := h
  clear h
  have H' := Aside0.mk H
  clear H
  go_enter Try.func29, Try.ntmps29
  go_wp2
  go_loopg [9] k (fun kq v9 w' => ∃ (x9_1 : Int), v9 = .int .i64 x9_1 ∧ Aside0 (spenceref01_In.l0 kq a1 l0 (l0.length : Int) x9_1 = some r) ∧ Aside0 (kq ≤ k) ∧ Drawn0 w w')
  case atStart => exact ⟨(0), (by first | rfl | (simp; done) | (simp [*]; done)), H', ⟨Nat.le_refl _⟩, by repeat (first | exact Drawn0.refl _ | apply Drawn0.step)⟩
  case round =>
    clear H'
    try clear c2
    try clear p2
    obtain ⟨x9_1, rfl, HA, HK1, ⟨m1, rfl⟩⟩ := hrel
    cases gk with
    | zero => exact absurd HA.out (by simp [spenceref01_In.l0])
    | succ k1 =>
      have H := HA.out
      clear HA
      simp only [spenceref01_In.l0] at H
      by_cases c3 : x9_1 < (l0.length : Int)
      · rw [if_pos c3] at H
        have c3b0 : decide (x9_1 < (l0.length : Int)) = true := decide_eq_true c3
        clear c3
        by_cases c4 : 0 ≤ x9_1
        · rw [if_pos c4] at H
          have c4b0 : decide (0 ≤ x9_1) = true := decide_eq_true c4
          clear c4
          by_cases c5 : x9_1 < (l0.length : Int)
          · rw [if_pos c5] at H
            have c5b0 : decide (x9_1 < (l0.length : Int)) = true := decide_eq_true c5
            clear c5
            by_cases c6 : (rd l0 x9_1) = a1
            · rw [if_pos c6] at H
              have c6b0 : ((rd l0 x9_1) == a1) = true := beq_iff_eq.mpr c6
              have c6b1 : ((rd l0 x9_1) != a1) = false := bne_eq_false_iff_eq.mpr c6
              clear c6
              obtain rfl := Option.some.inj H
              have p246 : 0 ≤ (x9_1 : Int) := of_decide_eq_true (by first | (with_reducible assumption) | assumption)
              have q246 : x9_1 < (l0.length : Int) := of_decide_eq_true (by first | (with_reducible assumption) | assumption)
              obtain ⟨ad246, e246, hx246_0⟩ := Kd.at_int HR0.out x9_1 p246 q246
              cases e246
              replace p246 := eq_true p246
              replace q246 := eq_true q246
              go_wp2
              go_ret
              exact ⟨by first | rfl | (simp; done) | (simp [*]; done) | exact ne_empty _ | exact eq_empty _, by repeat (first | exact Drawn0.refl _ | apply Drawn0.step)⟩
            · rw [if_neg c6] at H
              have c6b0 : ((rd l0 x9_1) == a1) = false := beq_eq_false_iff_ne.mpr c6
              have c6b1 : ((rd l0 x9_1) != a1) = true := bne_iff_ne.mpr c6
              have H' := Aside0.mk H
              clear H
              have p246 : 0 ≤ (x9_1 : Int) := of_decide_eq_true (by first | (with_reducible assumption) | assumption)
              have q246 : x9_1 < (l0.length : Int) := of_decide_eq_true (by first | (with_reducible assumption) | assumption)
              obtain ⟨ad246, e246, hx246_0⟩ := Kd.at_int HR0.out x9_1 p246 q246
              cases e246
              replace p246 := eq_true p246
              replace q246 := eq_true q246
              go_wp2
              go_roundg k1
              case measure => have := HK1.out; omega
              case rel => exact ⟨(wrap64 (x9_1 + 1)), (by first | rfl | (simp; done) | (simp [*]; done)), H', ⟨by have := HK1.out; omega⟩, by repeat (first | exact Drawn0.refl _ | apply Drawn0.step)⟩
          · rw [if_neg c5] at H
            exact absurd H (by simp)
        · rw [if_neg c4] at H
          exact absurd H (by simp)
      · rw [if_neg c3] at H
        have c3b0 : decide (x9_1 < (l0.length : Int)) = false := decide_eq_false c3
        clear c3
        obtain rfl := Option.some.inj H
        go_wp2
        go_ret
        exact ⟨by first | rfl | (simp; done) | (simp [*]; done) | exact ne_empty _ | exact eq_empty _, by repeat (first | exact Drawn0.refl _ | apply Drawn0.step)⟩
mutual
def spenceref24_Sorted.l0 : Nat → List Int → List Int → Int → Option (List Int)
  | 0, _, _, _ => none
  | k + 1, x0, x3, x4 => if x4 ≤ 4096 then (spenceref24_Sorted.j1 k x0 x3 x4 (decide ((x3.length : Int) < (x0.length : Int)))) else (spenceref24_Sorted.j1 k x0 x3 x4 false)
def spenceref24_Sorted.j1 : Nat → List Int → List Int → Int → Bool → Option (List Int)
  | 0, _, _, _, _ => none
  | k + 1, x0, x3, x4, x13 => if x13 = true then ((spenceref01_In.f k x0 x4).bind fun t247 => (if t247 = true then (if x3.length < 17592186044416 then (spenceref24_Sorted.l0 k x0 (x3 ++ [x4]) (wrap64 (x4 + 1))) else (none)) else (spenceref24_Sorted.l0 k x0 x3 (wrap64 (x4 + 1))))) else (some x3)
end
def spenceref24_Sorted.f (k : Nat) (l0 : List Int) : Option (List Int) := spenceref24_Sorted.l0 k l0 ([] : List Int) 0
theorem spenceref24_Sorted.mono_l : ∀ k, (∀ y0 y1 y2, LeO (spenceref24_Sorted.l0 k y0 y1 y2) (spenceref24_Sorted.l0 (k + 1) y0 y1 y2)) ∧ (∀ y0 y1 y2 y3, LeO (spenceref24_Sorted.j1 k y0 y1 y2 y3) (spenceref24_Sorted.j1 (k + 1) y0 y1 y2 y3))
  | 0 => ⟨fun _ _ _ r h => by simp [spenceref24_Sorted.l0] at h, fun _ _ _ _ r h => by simp [spenceref24_Sorted.j1] at h⟩
  | k + 1 => by
    obtain ⟨ih0, ih1⟩ := spenceref24_Sorted.mono_l k
    refine ⟨?_, ?_⟩
    · intro y0 y1 y2
      unfold spenceref24_Sorted.l0
      repeat' first
      | (with_reducible exact ih0 _ _ _)
      | (with_reducible exact ih1 _ _ _ _)
      | (with_reducible exact spenceref01_In.mono _ _ _)
      | (with_reducible exact LeO.refl _)
      | (with_reducible exact LeO.none _)
      | (with_reducible refine LeO.ite ?_ ?_)
      | (with_reducible refine LeO.bind ?_ (fun _ => ?_))
      | exact ih0 _ _ _
      | exact ih1 _ _ _ _
      | exact spenceref01_In.mono _ _ _
      | exact LeO.none _
      | refine LeO.ite ?_ ?_
      | refine LeO.bind ?_ (fun _ => ?_)
    · intro y0 y1 y2 y3
      unfold spenceref24_Sorted.j1
      repeat' first
      | (with_reducible exact ih0 _ _ _)
      | (with_reducible exact ih1 _ _ _ _)
      | (with_reducible exact spenceref01_In.mono _ _ _)
      | (with_reducible exact LeO.refl _)
      | (with_reducible exact LeO.none _)
      | (with_reducible refine LeO.ite ?_ ?_)
      | (with_reducible refine LeO.bind ?_ (fun _ => ?_))
      | exact ih0 _ _ _
      | exact ih1 _ _ _ _
      | exact spenceref01_In.mono _ _ _
      | exact LeO.none _
      | refine LeO.ite ?_ ?_
      | refine LeO.bind ?_ (fun _ => ?_)
theorem spenceref24_Sorted.mono : ∀ a0 k, LeO (spenceref24_Sorted.f k a0) (spenceref24_Sorted.f (k + 1) a0) := by
  intro a0 k
  obtain ⟨ih0, ih1⟩ := spenceref24_Sorted.mono_l k
  unfold spenceref24_Sorted.f
  repeat' first
      | (with_reducible exact ih0 _ _ _)
      | (with_reducible exact ih1 _ _ _ _)
      | (with_reducible exact spenceref01_In.mono _ _ _)
      | (with_reducible exact LeO.refl _)
      | (with_reducible exact LeO.none _)
      | (with_reducible refine LeO.ite ?_ ?_)
      | (with_reducible refine LeO.bind ?_ (fun _ => ?_))
      | exact ih0 _ _ _
      | exact ih1 _ _ _ _
      | exact spenceref01_In.mono _ _ _
      | exact LeO.none _
      | refine LeO.ite ?_ ?_
      | refine LeO.bind ?_ (fun _ => ?_)
def spenceref24_Split.l0 : Nat → List Int → List (S86) → List Int → Int → Int → Option ((List (S86)))
  | 0, _, _, _, _, _ => none
  | k + 1, x1, x5, x11, x12, x13 => if x13 < x12 then (if 0 ≤ x13 then (if x13 < (x11.length : Int) then ((spenceref01_In.f k x1 (rd x11 x13)).bind fun t255 => (if (x5.length : Int) > 0 then (if 0 ≤ (wrap64 ((x5.length : Int) - 1)) then (if (wrap64 ((x5.length : Int) - 1)) < (x5.length : Int) then (if ((rd_T86 x5 (wrap64 ((x5.length : Int) - 1))).f1) = (rd x11 x13) then (if (((rd_T86 x5 (wrap64 ((x5.length : Int) - 1))).f2) == t255) = true then (spenceref24_Split.l0 k x1 (x5.set ((wrap64 ((x5.length : Int) - 1)) : Int).toNat (⟨(rd_T86 x5 (wrap64 ((x5.length : Int) - 1))).f0, wrap64 ((rd x11 x13) + 1), (rd_T86 x5 (wrap64 ((x5.length : Int) - 1))).f2⟩ : S86)) x11 x12 (wrap64 (x13 + 1))) else (if x5.length < 5864062014805 then (spenceref24_Split.l0 k x1 (x5 ++ [(⟨rd x11 x13, wrap64 ((rd x11 x13) + 1), t255⟩ : S86)]) x11 x12 (wrap64 (x13 + 1))) else (none))) else (if x5.length < 5864062014805 then (spenceref24_Split.l0 k x1 (x5 ++ [(⟨rd x11 x13, wrap64 ((rd x11 x13) + 1), t255⟩ : S86)]) x11 x12 (wrap64 (x13 + 1))) else (none))) else (none)) else (none)) else (if x5.length < 5864062014805 then (spenceref24_Split.l0 k x1 (x5 ++ [(⟨rd x11 x13, wrap64 ((rd x11 x13) + 1), t255⟩ : S86)]) x11 x12 (wrap64 (x13 + 1))) else (none)))) else (none)) else (none)) else (some x5)
def spenceref24_Split.f (k : Nat) (l0 : List Int) (l1 : List Int) : Option ((List (S86))) := (spenceref24_Sorted.f k l0).bind fun t251 => (spenceref24_Split.l0 k l1 ([] : List (S86)) t251 (t251.length : Int) 0)
theorem spenceref24_Split.mono_l : ∀ k, (∀ y0 y1 y2 y3 y4, LeO (spenceref24_Split.l0 k y0 y1 y2 y3 y4) (spenceref24_Split.l0 (k + 1) y0 y1 y2 y3 y4))
  | 0 => fun _ _ _ _ _ r h => by simp [spenceref24_Split.l0] at h
  | k + 1 => by
    have ih0 := spenceref24_Split.mono_l k
    · intro y0 y1 y2 y3 y4
      unfold spenceref24_Split.l0
      repeat' first
      | (with_reducible exact ih0 _ _ _ _ _)
      | (with_reducible exact spenceref01_In.mono _ _ _)
      | (with_reducible exact spenceref24_Sorted.mono _ _)
      | (with_reducible exact LeO.refl _)
      | (with_reducible exact LeO.none _)
      | (with_reducible refine LeO.ite ?_ ?_)
      | (with_reducible refine LeO.bind ?_ (fun _ => ?_))
      | exact ih0 _ _ _ _ _
      | exact spenceref01_In.mono _ _ _
      | exact spenceref24_Sorted.mono _ _
      | exact LeO.none _
      | refine LeO.ite ?_ ?_
      | refine LeO.bind ?_ (fun _ => ?_)
theorem spenceref24_Split.mono : ∀ a0 a1 k, LeO (spenceref24_Split.f k a0 a1) (spenceref24_Split.f (k + 1) a0 a1) := by
  intro a0 a1 k
  have ih0 := spenceref24_Split.mono_l k
  unfold spenceref24_Split.f
  repeat' first
      | (with_reducible exact ih0 _ _ _ _ _)
      | (with_reducible exact spenceref01_In.mono _ _ _)
      | (with_reducible exact spenceref24_Sorted.mono _ _)
      | (with_reducible exact LeO.refl _)
      | (with_reducible exact LeO.none _)
      | (with_reducible refine LeO.ite ?_ ?_)
      | (with_reducible refine LeO.bind ?_ (fun _ => ?_))
      | exact ih0 _ _ _ _ _
      | exact spenceref01_In.mono _ _ _
      | exact spenceref24_Sorted.mono _ _
      | exact LeO.none _
      | refine LeO.ite ?_ ?_
      | refine LeO.bind ?_ (fun _ => ?_)
end Go.Proofs.Ytmojlhpkidbklaa.PAll
namespace Go.Proofs.Ytmojlhpkidbklaa.PAll
open Go.Proofs.Ytmojlhpkidbklaa.Ag (row_load row_store ag_gate)
open Go.RowKit Go.Proofs.Ytmojlhpkidbklaa.Xw Go.Proofs.YtmojlhpkidbklaaW.PrintWords Go.Proofs.YtmojlhpkidbklaaW.PrintLast Go.Proofs.YtmojlhpkidbklaaW.PrintMore
attribute [local go_sem] max2_int min2_int max_two min_two max_three min_three max_four min_four   -- for this text's walks alone
set_option linter.unusedVariables false
set_option linter.unusedSimpArgs false
mutual
def spencelaw18_BitmapRuns.j0 : Nat → List Int → Int → Int → Bool → Option (Bool)
  | 0, _, _, _, _ => none
  | k + 1, x0, x1, x2, x22 => if x22 = true then (some true) else ((bitmap_Of.f x0).bind fun t269 => ((bitmap_Runs.f k t269 x1 x2).bind fun t270 => (spencelaw18_BitmapRuns.l0 k x0 x2 t270 ([] : List Int) (mx x1 0))))
def spencelaw18_BitmapRuns.l0 : Nat → List Int → Int → List (S86) → List Int → Int → Option (Bool)
  | 0, _, _, _, _, _ => none
  | k + 1, x0, x2, x7, x8, x9 => if x9 < (mn x2 4097) then (if x8.length < 17592186044416 then (spencelaw18_BitmapRuns.l0 k x0 x2 x7 (x8 ++ [x9]) (wrap64 (x9 + 1))) else (none)) else ((spenceref24_Split.f k x8 x0).bind fun t276 => ((spenceref24_Runs.f k x7 t276).bind fun t279 => (some t279)))
end
def spencelaw18_BitmapRuns.f (k : Nat) (l0 : List Int) (a1 : Int) (a2 : Int) : Option (Bool) := (spencelaw18_awake.f k).bind fun t268 => (if t268 = true then (if (l0.length : Int) > 60 then (spencelaw18_BitmapRuns.j0 k l0 a1 a2 true) else (if a2 > 200 then (spencelaw18_BitmapRuns.j0 k l0 a1 a2 (decide (a1 < 3800))) else (spencelaw18_BitmapRuns.j0 k l0 a1 a2 false))) else (some false))
theorem spencelaw18_BitmapRuns.mono_l : ∀ k, (∀ y0 y1 y2 y3, LeO (spencelaw18_BitmapRuns.j0 k y0 y1 y2 y3) (spencelaw18_BitmapRuns.j0 (k + 1) y0 y1 y2 y3)) ∧ (∀ y0 y1 y2 y3 y4, LeO (spencelaw18_BitmapRuns.l0 k y0 y1 y2 y3 y4) (spencelaw18_BitmapRuns.l0 (k + 1) y0 y1 y2 y3 y4))
  | 0 => ⟨fun _ _ _ _ r h => by simp [spencelaw18_BitmapRuns.j0] at h, fun _ _ _ _ _ r h => by simp [spencelaw18_BitmapRuns.l0] at h⟩
  | k + 1 => by
    obtain ⟨ih0, ih1⟩ := spencelaw18_BitmapRuns.mono_l k
    refine ⟨?_, ?_⟩
    · intro y0 y1 y2 y3
      unfold spencelaw18_BitmapRuns.j0
      repeat' first
      | (with_reducible exact ih0 _ _ _ _)
      | (with_reducible exact ih1 _ _ _ _ _)
      | (with_reducible exact bitmap_Runs.mono _ _ _ _)
      | (with_reducible exact spencelaw18_awake.mono _)
      | (with_reducible exact spenceref24_Runs.mono _ _ _)
      | (with_reducible exact spenceref24_Split.mono _ _ _)
      | (with_reducible exact LeO.refl _)
      | (with_reducible exact LeO.none _)
      | (with_reducible refine LeO.ite ?_ ?_)
      | (with_reducible refine LeO.bind ?_ (fun _ => ?_))
      | exact ih0 _ _ _ _
      | exact ih1 _ _ _ _ _
      | exact bitmap_Runs.mono _ _ _ _
      | exact spencelaw18_awake.mono _
      | exact spenceref24_Runs.mono _ _ _
      | exact spenceref24_Split.mono _ _ _
      | exact LeO.none _
      | refine LeO.ite ?_ ?_
      | refine LeO.bind ?_ (fun _ => ?_)
    · intro y0 y1 y2 y3 y4
      unfold spencelaw18_BitmapRuns.l0
      repeat' first
      | (with_reducible exact ih0 _ _ _ _)
      | (with_reducible exact ih1 _ _ _ _ _)
      | (with_reducible exact bitmap_Runs.mono _ _ _ _)
      | (with_reducible exact spencelaw18_awake.mono _)
      | (with_reducible exact spenceref24_Runs.mono _ _ _)
      | (with_reducible exact spenceref24_Split.mono _ _ _)
      | (with_reducible exact LeO.refl _)
      | (with_reducible exact LeO.none _)
      | (with_reducible refine LeO.ite ?_ ?_)
      | (with_reducible refine LeO.bind ?_ (fun _ => ?_))
      | exact ih0 _ _ _ _
      | exact ih1 _ _ _ _ _
      | exact bitmap_Runs.mono _ _ _ _
      | exact spencelaw18_awake.mono _
      | exact spenceref24_Runs.mono _ _ _
      | exact spenceref24_Split.mono _ _ _
      | exact LeO.none _
      | refine LeO.ite ?_ ?_
      | refine LeO.bind ?_ (fun _ => ?_)
theorem spencelaw18_BitmapRuns.mono : ∀ a0 a1 a2 k, LeO (spencelaw18_BitmapRuns.f k a0 a1 a2) (spencelaw18_BitmapRuns.f (k + 1) a0 a1 a2) := by
  intro a0 a1 a2 k
  obtain ⟨ih0, ih1⟩ := spencelaw18_BitmapRuns.mono_l k
  unfold spencelaw18_BitmapRuns.f
  repeat' first
      | (with_reducible exact ih0 _ _ _ _)
      | (with_reducible exact ih1 _ _ _ _ _)
      | (with_reducible exact bitmap_Runs.mono _ _ _ _)
      | (with_reducible exact spencelaw18_awake.mono _)
      | (with_reducible exact spenceref24_Runs.mono _ _ _)
      | (with_reducible exact spenceref24_Split.mono _ _ _)
      | (with_reducible exact LeO.refl _)
      | (with_reducible exact LeO.none _)
      | (with_reducible refine LeO.ite ?_ ?_)
      | (with_reducible refine LeO.bind ?_ (fun _ => ?_))
      | exact ih0 _ _ _ _
      | exact ih1 _ _ _ _ _
      | exact bitmap_Runs.mono _ _ _ _
      | exact spencelaw18_awake.mono _
      | exact spenceref24_Runs.mono _ _ _
      | exact spenceref24_Split.mono _ _ _
      | exact LeO.none _
      | refine LeO.ite ?_ ?_
      | refine LeO.bind ?_ (fun _ => ?_)
def spencelaw18_BitmapTwo.f (l0 : List Int) (l1 : List Int) (a2 : Int) : Option (Bool) := some true
def spenceref01_Ints.l0 : Nat → List Int → List Int → Int → Int → Option (Bool)
  | 0, _, _, _, _ => none
  | k + 1, x0, x1, x12, x13 => if x13 < x12 then (if 0 ≤ x13 then (if x13 < (x0.length : Int) then (if x13 < (x1.length : Int) then (if (rd x0 x13) = (rd x1 x13) then (spenceref01_Ints.l0 k x0 x1 x12 (wrap64 (x13 + 1))) else (some false)) else (none)) else (none)) else (none)) else (some true)
def spenceref01_Ints.f (k : Nat) (l0 : List Int) (l1 : List Int) : Option (Bool) := if (l0.length : Int) = (l1.length : Int) then (spenceref01_Ints.l0 k l0 l1 (l0.length : Int) 0) else (some false)
theorem spenceref01_Ints.mono_l : ∀ k, (∀ y0 y1 y2 y3, LeO (spenceref01_Ints.l0 k y0 y1 y2 y3) (spenceref01_Ints.l0 (k + 1) y0 y1 y2 y3))
  | 0 => fun _ _ _ _ r h => by simp [spenceref01_Ints.l0] at h
  | k + 1 => by
    have ih0 := spenceref01_Ints.mono_l k
    · intro y0 y1 y2 y3
      unfold spenceref01_Ints.l0
      repeat' first
      | (with_reducible exact ih0 _ _ _ _)
      | (with_reducible exact LeO.refl _)
      | (with_reducible exact LeO.none _)
      | (with_reducible refine LeO.ite ?_ ?_)
      | (with_reducible refine LeO.bind ?_ (fun _ => ?_))
      | exact ih0 _ _ _ _
      | exact LeO.none _
      | refine LeO.ite ?_ ?_
      | refine LeO.bind ?_ (fun _ => ?_)
theorem spenceref01_Ints.mono : ∀ a0 a1 k, LeO (spenceref01_Ints.f k a0 a1) (spenceref01_Ints.f (k + 1) a0 a1) := by
  intro a0 a1 k
  have ih0 := spenceref01_Ints.mono_l k
  unfold spenceref01_Ints.f
  repeat' first
      | (with_reducible exact ih0 _ _ _ _)
      | (with_reducible exact LeO.refl _)
      | (with_reducible exact LeO.none _)
      | (with_reducible refine LeO.ite ?_ ?_)
      | (with_reducible refine LeO.bind ?_ (fun _ => ?_))
      | exact ih0 _ _ _ _
      | exact LeO.none _
      | refine LeO.ite ?_ ?_
      | refine LeO.bind ?_ (fun _ => ?_)
def span_Meet.f (a0_0 : Int) (a0_1 : Int) (a1_0 : Int) (a1_1 : Int) : Option (Int × Int × Bool) := (span_Right.f a0_0 a0_1).bind fun t297 => (if t297 = true then ((span_Right.f a1_0 a1_1).bind fun t298 => (if t298 = true then ((span_Right.f (mx a0_0 a1_0) (mn a0_1 a1_1)).bind fun t299 => (if t299 = true then (some (mx a0_0 a1_0, mn a0_1 a1_1, true)) else (some (0, 0, false)))) else (some (0, 0, false)))) else (some (0, 0, false)))
def cuts_Part.f (a0_0 : Int) (a0_1 : Int) (a1 : Int) (a2 : Int) (a3 : Int) : Option (Int × Int × Bool) := (cuts_Bounds.f a1 a2 a3).bind fun bt302 => (if bt302.2.2 = true then ((span_Meet.f a0_0 a0_1 bt302.1 bt302.2.1).bind fun bt306 => (some (bt306.1, bt306.2.1, bt306.2.2))) else (some (0, 0, false)))
end Go.Proofs.Ytmojlhpkidbklaa.PAll
namespace Go.Proofs.Ytmojlhpkidbklaa.Ag
open Go.RowKit Go.Proofs.Ytmojlhpkidbklaa.Xw Go.Proofs.YtmojlhpkidbklaaW.PrintWords Go.Proofs.YtmojlhpkidbklaaW.PrintLast Go.Proofs.YtmojlhpkidbklaaW.PrintMore
set_option maxHeartbeats 4000000 in
set_option maxRecDepth 100000 in
theorem or_calls1 (x y : Int) (w : World) : Calls Try.prog 58 #[.int .u64 x, .int .u64 y] w fun e w' => e = .returned (.int .u64 (bits .or .u64 x y)) ∧ w' = w := by
  go_enter Try.func58, Try.ntmps58
  go_wp2
  go_ret
  exact ⟨rfl, rfl⟩
set_option maxHeartbeats 4000000 in
set_option maxRecDepth 100000 in
theorem and_calls1 (x y : Int) (w : World) : Calls Try.prog 60 #[.int .u64 x, .int .u64 y] w fun e w' => e = .returned (.int .u64 (bits .and .u64 x y)) ∧ w' = w := by
  go_enter Try.func60, Try.ntmps60
  go_wp2
  go_ret
  exact ⟨rfl, rfl⟩
def joinF (op : Int → Int → Int) (f1 f2 : Nat → Int) (k : Nat) : Nat → Int := fun j => if j < k then op (f1 j) (f2 j) else f1 j
set_option maxHeartbeats 4000000 in
set_option maxRecDepth 100000 in
theorem joined_calls (g : Nat) (op : Int → Int → Int) (eg : ∀ args w, (callFunc g args).run Try.prog w = .ok (.enter g args) w) (hg : ∀ x y W, Calls Try.prog g #[.int .u64 x, .int .u64 y] W fun e w' => e = .returned (.int .u64 (op x y)) ∧ w' = W) (f1 f2 : Nat → Int) (w : World) :
    Calls Try.prog 57 #[.agg (agC .u64 65 f1), .agg (agC .u64 65 f2), .func (.func g) #[] #[]] w fun e w' => e = .returned (.agg (agC .u64 65 (joinF op f1 f2 65))) ∧ Below w.heap.size w w' := by
  have HG := Aside0.mk hg
  clear hg
  go_enter Try.func57, Try.ntmps57
  have BK1 := Aside0.mk (blk_alloc (blk_alloc (blk_new w (.cells (agC .u64 65 f1) 44 (0, 0))) (.cells (agC .u64 65 f2) 44 (0, 0))) (.cells Try.zeroCells44 44 (0, 0)))
  have BK2 := blk_alloc (blk_new (w.alloc (.cells (agC .u64 65 f1) 44 (0, 0))) (.cells (agC .u64 65 f2) 44 (0, 0))) (.cells Try.zeroCells44 44 (0, 0))
  have BK3 := blk_new ((w.alloc (.cells (agC .u64 65 f1) 44 (0, 0))).alloc (.cells (agC .u64 65 f2) 44 (0, 0))) (.cells Try.zeroCells44 44 (0, 0))
  rw [alloc_size] at BK2
  rw [alloc_size, alloc_size] at BK3
  have BK2 := Aside0.mk BK2
  have BK3 := Aside0.mk BK3
  have HB := Aside0.mk (below_alloc (below_alloc (below_alloc (Below.refl w.heap.size w) (.cells (agC .u64 65 f1) 44 (0, 0))) (.cells (agC .u64 65 f2) 44 (0, 0))) (.cells Try.zeroCells44 44 (0, 0)))
  obtain ⟨f9, hf9⟩ : ∃ f9, joinF op f1 f2 65 = f9 := ⟨_, rfl⟩
  rw [hf9]
  have hf9 := Aside0.mk hf9
  go_wp2_with (fail)
  generalize ((w.alloc (.cells (agC .u64 65 f1) 44 (0, 0))).alloc (.cells (agC .u64 65 f2) 44 (0, 0))).alloc (.cells Try.zeroCells44 44 (0, 0)) = w1 at BK1 BK2 BK3 HB ⊢
  go_loopg [7, 8] 65 (fun gg _ s8 wr => ∃ kk : Nat, kk ≤ 65 ∧ 65 - kk ≤ gg ∧ s8 = .int .i64 kk ∧ Aside0 (Below w.heap.size w wr) ∧ Aside0 (wr.heap[w.heap.size]? = some (.cells (agC .u64 65 (joinF op f1 f2 kk)) 44 (0, 0))) ∧ Aside0 (wr.heap[w.heap.size + 1]? = some (.cells (agC .u64 65 f2) 44 (0, 0))) ∧ Aside0 (wr.heap[w.heap.size + 1 + 1]? = some (.cells Try.zeroCells44 44 (0, 0))))
  case atStart => exact ⟨0, by omega, by omega, rfl, HB, ⟨by rw [BK1.out]; rfl⟩, BK2, BK3⟩
  case round =>
    clear BK1 BK2 BK3 HB
    obtain ⟨kk, hkk, hgk, rfl, HB, BK1, BK2, BK3⟩ := hrel
    by_cases hlt : kk < 65
    · have hltz : (kk : Int) < 65 := by omega
      have hc1 := blk_cell BK1.out kk
      rw [agC_get _ _ _ _ hlt, show joinF op f1 f2 kk kk = f1 kk by unfold joinF; rw [if_neg (by omega)]] at hc1
      have hfz := blk_frozen BK1.out kk
      have hc2 := blk_cell BK2.out kk
      rw [agC_get _ _ _ _ hlt] at hc2
      have hnx : putF (joinF op f1 f2 kk) kk (op (f1 kk) (f2 kk)) = joinF op f1 f2 (kk + 1) := by
        funext j
        unfold putF joinF
        by_cases h1 : j = kk
        · subst h1; rw [if_pos rfl, if_pos (by omega)]
        · rw [if_neg h1]
          by_cases h2 : j < kk
          · rw [if_pos h2, if_pos (by omega)]
          · rw [if_neg h2, if_neg (by omega)]
      have hnx := Aside0.mk hnx
      go_wp2_with (fail)
      go_region_with (refine (HG.out _ _ _).mono ?_; rintro e w' ⟨rfl, rfl⟩; dsimp only)
      all_goals (
        have BK4 := blk_drew (blk_set BK1.out kk (Value.int IntKind.u64 (op (f1 kk) (f2 kk))))
        rw [agC_set, hnx.out] at BK4
        have BK5 := blk_drew (blk_far BK2.out (p := ⟨w.heap.size, kk, none⟩) (by show w.heap.size + 1 ≠ w.heap.size; omega) (Value.int IntKind.u64 (op (f1 kk) (f2 kk))))
        have BK6 := blk_drew (blk_far BK3.out (p := ⟨w.heap.size, kk, none⟩) (by show w.heap.size + 1 + 1 ≠ w.heap.size; omega) (Value.int IntKind.u64 (op (f1 kk) (f2 kk))))
        have HB2 := below_drew (below_set (j := kk) (v := Value.int IntKind.u64 (op (f1 kk) (f2 kk))) HB.out (Nat.le_refl _))
        generalize (wr.setCell ⟨w.heap.size, kk, none⟩ (Value.int IntKind.u64 (op (f1 kk) (f2 kk)))).drew = w2 at BK4 BK5 BK6 HB2 ⊢
        have BK4 := Aside0.mk BK4
        have BK5 := Aside0.mk BK5
        have BK6 := Aside0.mk BK6
        have HB2 := Aside0.mk HB2
        clear BK1 BK2 BK3 HB hc1 hc2 hfz
        go_wp2_with (fail)
        go_roundg (65 - (kk + 1))
        case measure => omega
        case rel => exact ⟨kk + 1, by omega, by omega, by go_num, HB2, BK4, BK5, BK6⟩)
    · have hltz : ¬ (kk : Int) < 65 := by omega
      obtain rfl : kk = 65 := by omega
      clear hgk hkk hlt
      have BK4 := Aside0.mk (show wr.heap[w.heap.size]? = some (.cells (agC .u64 65 f9) 44 (0, 0)) by rw [← hf9.out]; exact BK1.out)
      clear BK1
      go_wp2_with (first | ((with_reducible refine gate_dst (N := 25) rfl ?_); refine row_load rfl 44 (.tmp 3) rfl w.heap.size rfl .u64 65 f9 44 _ BK4.out Try.underlying44 rfl info_map ?_) | ((with_reducible refine gate_store (t := 44) (p := 6) rfl ?_); refine row_store rfl 44 (.tmp 6) (.tmp 25) rfl rfl (w.heap.size + 1 + 1) rfl .u64 65 f9 rfl _ 44 BK3.out info_map (by rw [zero_map, agC_size]) ?_; intro w3 BK5 BK6 HB3))
      refine bodyPost_ret (v := .agg (agC .u64 65 f9)) (results_cell_row (p := 6) (ty := 44) Try.results57 _ _ (w.heap.size + 1 + 1) 44 _ (0, 0) _ rfl BK5 Try.underlying44 rfl (by rw [info_map, agC_size])) rfl ⟨rfl, HB3 _ _ HB.out (by omega)⟩
theorem enters_own {f : FuncId} {fn : Func} {c : Code} (hf : Try.prog.funcs[f]? = some fn) (hn : (fn.name == "runtime.NumGoroutine") = false) (hb : fn.body = some c) : ∀ (args : Array Value) (w : World), (callFunc f args).run Try.prog w = .ok (.enter f args) w := by
  intro args w
  have h1 : fn.name ≠ "runtime.NumGoroutine" := by simpa using hn
  simp [callFunc, hf, h1, hb, mark]
set_option maxHeartbeats 4000000 in
set_option maxRecDepth 100000 in
theorem or_calls (f1 f2 : Nat → Int) (w : World) : Calls Try.prog 30 #[.agg (agC .u64 65 f1), .agg (agC .u64 65 f2)] w fun e w' => e = .returned (.agg (agC .u64 65 (joinF (bits .or .u64) f1 f2 65))) ∧ Below w.heap.size w w' := by
  have BK1 := Aside0.mk (blk_alloc (blk_alloc (blk_new w (.cells (agC .u64 65 f1) 44 (0, 0))) (.cells (agC .u64 65 f2) 44 (0, 0))) (.cells Try.zeroCells44 44 (0, 0)))
  have BK2 := blk_alloc (blk_new (w.alloc (.cells (agC .u64 65 f1) 44 (0, 0))) (.cells (agC .u64 65 f2) 44 (0, 0))) (.cells Try.zeroCells44 44 (0, 0))
  have BK3 := blk_new ((w.alloc (.cells (agC .u64 65 f1) 44 (0, 0))).alloc (.cells (agC .u64 65 f2) 44 (0, 0))) (.cells Try.zeroCells44 44 (0, 0))
  rw [alloc_size] at BK2
  rw [alloc_size, alloc_size] at BK3
  have BK2 := Aside0.mk BK2
  have BK3 := Aside0.mk BK3
  have HB := Aside0.mk (below_alloc (below_alloc (below_alloc (Below.refl w.heap.size w) (.cells (agC .u64 65 f1) 44 (0, 0))) (.cells (agC .u64 65 f2) 44 (0, 0))) (.cells Try.zeroCells44 44 (0, 0)))
  have hj := fun W => joined_calls 58 (bits .or .u64) (enters_own Try.func58 (by kernel_rfl) rfl) or_calls1 f1 f2 W
  generalize joinF (bits .or .u64) f1 f2 65 = f9 at hj ⊢
  have hj := Aside0.mk hj
  go_enter Try.func30, Try.ntmps30
  go_wp2_with (first | ((with_reducible refine gate_dst (N := 5) rfl ?_); refine row_load rfl 44 (.tmp 2) rfl w.heap.size rfl .u64 65 f1 44 _ BK1.out Try.underlying44 rfl info_map ?_) | ((with_reducible refine gate_dst (N := 6) rfl ?_); refine row_load rfl 44 (.tmp 3) rfl (w.heap.size + 1) rfl .u64 65 f2 44 _ BK2.out Try.underlying44 rfl info_map ?_))
  refine (hj.out _).mono ?_
  rintro e w2 ⟨rfl, hb⟩
  dsimp only
  have BK4 := Aside0.mk (blk_below BK3.out hb)
  have HB2 := Aside0.mk (below_step HB.out hb)
  clear BK1 BK2 BK3 HB hj hb
  go_wp2_with (first | ((with_reducible refine gate_store (t := 44) (p := 4) rfl ?_); refine row_store rfl 44 (.tmp 4) (.tmp 7) rfl rfl (w.heap.size + 1 + 1) rfl .u64 65 f9 rfl _ 44 BK4.out info_map (by rw [zero_map, agC_size]) ?_; intro w3 BK5 BK6 HB3))
  refine bodyPost_ret (v := .agg (agC .u64 65 f9)) (results_cell_row (p := 4) (ty := 44) Try.results30 _ _ (w.heap.size + 1 + 1) 44 _ (0, 0) _ rfl BK5 Try.underlying44 rfl (by rw [info_map, agC_size])) rfl ⟨rfl, HB3 _ _ HB2.out (by omega)⟩
set_option maxHeartbeats 4000000 in
set_option maxRecDepth 100000 in
theorem and_calls (f1 f2 : Nat → Int) (w : World) : Calls Try.prog 32 #[.agg (agC .u64 65 f1), .agg (agC .u64 65 f2)] w fun e w' => e = .returned (.agg (agC .u64 65 (joinF (bits .and .u64) f1 f2 65))) ∧ Below w.heap.size w w' := by
  have BK1 := Aside0.mk (blk_alloc (blk_alloc (blk_new w (.cells (agC .u64 65 f1) 44 (0, 0))) (.cells (agC .u64 65 f2) 44 (0, 0))) (.cells Try.zeroCells44 44 (0, 0)))
  have BK2 := blk_alloc (blk_new (w.alloc (.cells (agC .u64 65 f1) 44 (0, 0))) (.cells (agC .u64 65 f2) 44 (0, 0))) (.cells Try.zeroCells44 44 (0, 0))
  have BK3 := blk_new ((w.alloc (.cells (agC .u64 65 f1) 44 (0, 0))).alloc (.cells (agC .u64 65 f2) 44 (0, 0))) (.cells Try.zeroCells44 44 (0, 0))
  rw [alloc_size] at BK2
  rw [alloc_size, alloc_size] at BK3
  have BK2 := Aside0.mk BK2
  have BK3 := Aside0.mk BK3
  have HB := Aside0.mk (below_alloc (below_alloc (below_alloc (Below.refl w.heap.size w) (.cells (agC .u64 65 f1) 44 (0, 0))) (.cells (agC .u64 65 f2) 44 (0, 0))) (.cells Try.zeroCells44 44 (0, 0)))
  have hj := fun W => joined_calls 60 (bits .and .u64) (enters_own Try.func60 (by kernel_rfl) rfl) and_calls1 f1 f2 W
  generalize joinF (bits .and .u64) f1 f2 65 = f9 at hj ⊢
  have hj := Aside0.mk hj
  go_enter Try.func32, Try.ntmps32
  go_wp2_with (first | ((with_reducible refine gate_dst (N := 5) rfl ?_); refine row_load rfl 44 (.tmp 2) rfl w.heap.size rfl .u64 65 f1 44 _ BK1.out Try.underlying44 rfl info_map ?_) | ((with_reducible refine gate_dst (N := 6) rfl ?_); refine row_load rfl 44 (.tmp 3) rfl (w.heap.size + 1) rfl .u64 65 f2 44 _ BK2.out Try.underlying44 rfl info_map ?_))
  refine (hj.out _).mono ?_
  rintro e w2 ⟨rfl, hb⟩
  dsimp only
  have BK4 := Aside0.mk (blk_below BK3.out hb)
  have HB2 := Aside0.mk (below_step HB.out hb)
  clear BK1 BK2 BK3 HB hj hb
  go_wp2_with (first | ((with_reducible refine gate_store (t := 44) (p := 4) rfl ?_); refine row_store rfl 44 (.tmp 4) (.tmp 7) rfl rfl (w.heap.size + 1 + 1) rfl .u64 65 f9 rfl _ 44 BK4.out info_map (by rw [zero_map, agC_size]) ?_; intro w3 BK5 BK6 HB3))
  refine bodyPost_ret (v := .agg (agC .u64 65 f9)) (results_cell_row (p := 4) (ty := 44) Try.results32 _ _ (w.heap.size + 1 + 1) 44 _ (0, 0) _ rfl BK5 Try.underlying44 rfl (by rw [info_map, agC_size])) rfl ⟨rfl, HB3 _ _ HB2.out (by omega)⟩
end Go.Proofs.Ytmojlhpkidbklaa.Ag
namespace Go.Proofs.Ytmojlhpkidbklaa.Ag
open Go.RowKit Go.Proofs.Ytmojlhpkidbklaa.Xw Go.Proofs.YtmojlhpkidbklaaW.PrintWords Go.Proofs.YtmojlhpkidbklaaW.PrintLast Go.Proofs.YtmojlhpkidbklaaW.PrintMore
def eqF (n : Nat) (f1 f2 : Nat → Int) : Bool := (List.range n).all fun i => f1 i == f2 i
theorem row_items {P : Program} (w : World) (d : Nat) (e : TypeId) (k k' : IntKind) (n : Nat) (f1 f2 : Nat → Int) (he : P.underlying e = some (.int k')) : ∀ is : List Nat, (∀ i ∈ is, i < n) → (Op.eqItems (d + 1) e 1 (agC k n f1) (agC k n f2) is).run P w = .ok (is.all fun i => f1 i == f2 i) w
  | [], _ => by simp [Op.eqItems]
  | i :: is, h => by
    have hi := h i List.mem_cons_self
    have px : ∀ f, (part e (agC k n f) (i * 1)).run P w = .ok (.int k (f i)) w := fun f => by
      have := agC_get k n f i hi
      simp [part, isAgg, run_underlying he, this]
    have ih := row_items w d e k k' n f1 f2 he is (fun j hj => h j (List.mem_cons_of_mem _ hj))
    simp only [Op.eqItems, Sem.run_bind, px, Result.andThen_ok, run_equalIn_int w d e k k' _ _ he, List.all_cons]
    cases hb : (f1 i == f2 i)
    · simp
    · simp [ih]
theorem eqF_iff (n : Nat) (f1 f2 : Nat → Int) : eqF n f1 f2 = true ↔ ∀ i, i < n → f1 i = f2 i := by
  unfold eqF
  simp
theorem isAgg_agg {P : Program} (w : World) {t : TypeId} {n : Nat} {e : TypeId} (h : P.underlying t = some (.array n e)) : (isAgg t).run P w = .ok true w := by
  simp [isAgg, run_underlying h]
theorem map_eql (f1 f2 : Nat → Int) (w : World) : (binOp .eql 44 (.agg (agC .u64 65 f1)) (.agg (agC .u64 65 f2))).run Try.prog w = .ok (.bool (eqF 65 f1 f2)) w := by
  rw [run_eql_struct, run_equalIn_agg _ _ _ _ _ (by kernel_rfl) (by kernel_rfl)]
  obtain ⟨fd, hf, hn, ht, ho⟩ : ∃ fd, (Try.prog.fieldsOf 44).toList = [fd] ∧ (fd.name == "_") = false ∧ fd.type = 42 ∧ fd.offset = 0 := ⟨(Try.prog.fieldsOf 44).toList.headD default, by kernel_rfl, by kernel_rfl, by kernel_rfl, by kernel_rfl⟩
  have hi : (Try.prog.info? 42).map (·.size) = some 65 := by kernel_rfl
  obtain ⟨i1, hi1, hs1⟩ := Option.map_eq_some_iff.1 hi
  have hi' : (Try.prog.info? 41).map (·.size) = some 1 := by kernel_rfl
  obtain ⟨i2, hi2, hs2⟩ := Option.map_eq_some_iff.1 hi'
  have px : ∀ f, (part fd.type (agC .u64 65 f) fd.offset).run Try.prog w = .ok (.agg (agC .u64 65 f)) w := fun f => by
    rw [ht, ho]
    simp only [part, Sem.run_bind, isAgg_agg w Try.underlying42, Result.andThen_ok, if_true, run_sizeOf w hi1, Sem.run_pure, Nat.zero_add]
    rw [show Try.prog.cellsOf 42 = (agC .u64 65 f).size by rw [agC_size]; kernel_rfl, Array.extract_size]
  rw [hf]
  have hn' : fd.name ≠ "_" := by simpa using hn
  have hc : Try.prog.cellsOf 41 = 1 := by kernel_rfl
  simp only [Op.eqFields, hn', ne_eq, not_false_eq_true, if_true, Sem.run_bind, px, Result.andThen_ok]
  rw [ht, run_equalIn_array w 9998 _ _ Try.underlying42 hi2, hc, row_items w 9997 41 .u64 .u64 65 f1 f2 Try.underlying41 _ (fun i h => List.mem_range.1 h)]
  unfold eqF
  cases ((List.range 65).all fun i => f1 i == f2 i) <;> rfl
end Go.Proofs.Ytmojlhpkidbklaa.Ag
namespace Go.Proofs.Ytmojlhpkidbklaa.Ag
open Go.RowKit Go.Proofs.Ytmojlhpkidbklaa.Xw Go.Proofs.YtmojlhpkidbklaaW.PrintWords Go.Proofs.YtmojlhpkidbklaaW.PrintLast Go.Proofs.YtmojlhpkidbklaaW.PrintMore
/-- The block g holds the map f. -/
def Holds (g : Nat) (f : Nat → Int) (w : World) : Prop := w.heap[g]? = some (.cells (agC .u64 65 f) 44 (0, 0))
theorem Holds.load {g : Nat} {f : Nat → Int} {w : World} (h : Holds g f w) : (loadVar 44 ⟨g, 0, none⟩).run Try.prog w = .ok (.agg (agC .u64 65 f)) w := by
  refine run_loadVar_mid w g 0 44 (agC .u64 65 f).toList _ ?_ Try.underlying44 rfl (by rw [info_map]; simp [agC])
  intro j v hv
  rw [Nat.zero_add]
  have := blk_cell h j
  rw [Array.getElem?_toList] at hv
  rw [this]; exact hv
def ldMap (v : Value) : Sem Value := Instr.loadAt 44 v
theorem ldMap_eq (v : Value) : Instr.loadAt 44 v = ldMap v := rfl
theorem Holds.ld {g : Nat} {f : Nat → Int} {w : World} (h : Holds g f w) : (ldMap (.pointer (some ⟨g, 0, none⟩))).run Try.prog w = .ok (.agg (agC .u64 65 f)) w := by
  simp only [ldMap, Instr.loadAt, Instr.sureAddr, Sem.run_bind, Sem.run_pure, Result.andThen_ok, h.load]
theorem Holds.below {g : Nat} {f : Nat → Int} {w w' : World} (h : Holds g f w) (hb : Below w.heap.size w w') : Holds g f w' := blk_below h hb
theorem Holds.drew {g : Nat} {f : Nat → Int} {w : World} (h : Holds g f w) : Holds g f w.drew := blk_drew h
attribute [local go_sem ↓] Go.wp_at_zero Go.wp_at_succ map_eql ldMap_eq
/-- Two maps in two blocks, one behind the other, of the call's own. -/
def Two (f1 f2 : Nat → Int) (w W : World) : Prop := Holds w.heap.size f1 W ∧ Holds (w.heap.size + 1) f2 W ∧ Below w.heap.size w W
section
variable {f1 f2 : Nat → Int} {w W W' : World}
theorem Two.ld1 (h : Two f1 f2 w W) : (ldMap (.pointer (some ⟨w.heap.size, 0, none⟩))).run Try.prog W = .ok (.agg (agC .u64 65 f1)) W := h.1.ld
theorem Two.ld2 (h : Two f1 f2 w W) : (ldMap (.pointer (some ⟨w.heap.size + 1, 0, none⟩))).run Try.prog W = .ok (.agg (agC .u64 65 f2)) W := h.2.1.ld
theorem Two.drew (h : Two f1 f2 w W) : Two f1 f2 w W.drew := ⟨h.1.drew, h.2.1.drew, below_drew h.2.2⟩
theorem Two.step (h : Two f1 f2 w W) (hb : Below W.heap.size W W') : Two f1 f2 w W' := ⟨h.1.below hb, h.2.1.below hb, below_step h.2.2 hb⟩
end
set_option maxHeartbeats 4000000 in
set_option maxRecDepth 100000 in
theorem within_calls (f1 f2 : Nat → Int) (w : World) : Calls Try.prog 33 #[.agg (agC .u64 65 f1), .agg (agC .u64 65 f2)] w fun e w' => e = .returned (.bool (eqF 65 (joinF (bits .and .u64) f1 f2 65) f1)) ∧ Below w.heap.size w w' := by
  have KK : Two f1 f2 w ((w.alloc (.cells (agC .u64 65 f1) 44 (0, 0))).alloc (.cells (agC .u64 65 f2) 44 (0, 0))) := by
    refine ⟨blk_alloc (blk_new w (.cells (agC .u64 65 f1) 44 (0, 0))) (.cells (agC .u64 65 f2) 44 (0, 0)), ?_, below_alloc (below_alloc (Below.refl w.heap.size w) (.cells (agC .u64 65 f1) 44 (0, 0))) (.cells (agC .u64 65 f2) 44 (0, 0))⟩
    have BK2 := blk_new (w.alloc (.cells (agC .u64 65 f1) 44 (0, 0))) (.cells (agC .u64 65 f2) 44 (0, 0))
    rw [alloc_size] at BK2
    exact BK2
  have HA := Aside0.mk (and_calls f1 f2)
  have hS1 := fun W h => @Two.ld1 f1 f2 w W h
  have hS2 := fun W h => @Two.ld2 f1 f2 w W h
  go_enter Try.func33, Try.ntmps33
  go_wp2_with (fail)
  generalize (w.alloc (.cells (agC .u64 65 f1) 44 (0, 0))).alloc (.cells (agC .u64 65 f2) 44 (0, 0)) = w1 at KK ⊢
  go_region_held3 (fun W => Two f1 f2 w W) (first | exact Two.drew ‹_› | exact Two.step ‹_› ‹_›) ((refine (HA.out _).mono ?_; rintro e w' ⟨rfl, hb⟩; dsimp only))
  go_wp2
  have hT : Two f1 f2 w w' := by assumption
  go_ret
  exact ⟨rfl, hT.2.2⟩
end Go.Proofs.Ytmojlhpkidbklaa.Ag
namespace Go.Proofs.Ytmojlhpkidbklaa.Ag
open Go.RowKit
def InU (f : Nat → Int) : Prop := ∀ j, ∃ n : Nat, f j = (n : Int) ∧ n < 2 ^ 64
theorem u64_wr (n : Int) (h0 : 0 ≤ n) (h1 : n < 2 ^ 64) : IntKind.u64.wrap n = n := by
  unfold IntKind.wrap
  simp [IntKind.bits, IntKind.signed]
  omega
theorem two_lt (r : Nat) (h : r < 64) : (2 ^ r : Nat) < 2 ^ 64 := Nat.pow_lt_pow_right (by decide) h
theorem two_cast (r : Nat) : (2 : Int) ^ r = ((2 ^ r : Nat) : Int) := by simp
theorem or_u (a b : Nat) (ha : a < 2 ^ 64) (hb : b < 2 ^ 64) : bits .or .u64 (a : Int) (b : Int) = ((a ||| b : Nat) : Int) := (bits_nat .u64 64 (by decide) u64_wr a b ha hb).2
theorem and_u (a b : Nat) (ha : a < 2 ^ 64) (hb : b < 2 ^ 64) : bits .and .u64 (a : Int) (b : Int) = ((a &&& b : Nat) : Int) := (bits_nat .u64 64 (by decide) u64_wr a b ha hb).1
theorem has_eq (f : Nat → Int) (hU : InU f) (i : Int) : hasF f i = (decide (0 ≤ i ∧ i ≤ 4096) && (f (i.toNat / 64)).toNat.testBit (i.toNat % 64)) := by
  unfold hasF
  obtain ⟨n, e, hn⟩ := hU (i.toNat / 64)
  congr 1
  rw [e, two_cast, Int.toNat_natCast]
  have h1 : ((n : Int) / ((2 ^ (i.toNat % 64) : Nat) : Int)) = ((n / 2 ^ (i.toNat % 64) : Nat) : Int) := rfl
  have h2 : n / 2 ^ (i.toNat % 64) < 2 ^ 64 := Nat.lt_of_le_of_lt (Nat.div_le_self _ _) hn
  rw [h1, show (1 : Int) = ((1 : Nat) : Int) from rfl, and_u _ 1 h2 (by decide), Nat.and_one_is_mod, Nat.testBit_eq_decide_div_mod_eq]
  generalize n / 2 ^ (i.toNat % 64) % 2 = m
  rw [Bool.eq_iff_iff, beq_iff_eq, decide_eq_true_eq]
  omega
theorem with_eq (f : Nat → Int) (hU : InU f) (i : Int) (h : 0 ≤ i ∧ i ≤ 4096) : withF f i = putF f (i.toNat / 64) (((f (i.toNat / 64)).toNat ||| 2 ^ (i.toNat % 64) : Nat) : Int) ∧ ((f (i.toNat / 64)).toNat ||| 2 ^ (i.toNat % 64)) < 2 ^ 64 := by
  obtain ⟨n, e, hn⟩ := hU (i.toNat / 64)
  have h2 := two_lt (i.toNat % 64) (Nat.mod_lt _ (by decide))
  unfold withF
  rw [if_pos h, e, two_cast, u64_wr _ (Int.natCast_nonneg _) (by exact_mod_cast h2), or_u _ _ hn h2, Int.toNat_natCast]
  exact ⟨rfl, Nat.or_lt_two_pow hn h2⟩
theorem zeroU : InU zeroF := fun _ => ⟨0, rfl, by decide⟩
theorem withU (f : Nat → Int) (hU : InU f) (i : Int) : InU (withF f i) := by
  by_cases h : 0 ≤ i ∧ i ≤ 4096
  · obtain ⟨e, hlt⟩ := with_eq f hU i h
    rw [e]
    intro j
    unfold putF
    split
    · exact ⟨_, rfl, hlt⟩
    · exact hU j
  · unfold withF; rw [if_neg h]; exact hU
theorem has_with (f : Nat → Int) (hU : InU f) (i j : Int) : hasF (withF f i) j = (hasF f j || (decide (0 ≤ i ∧ i ≤ 4096) && decide (i = j))) := by
  by_cases h : 0 ≤ i ∧ i ≤ 4096
  · rw [has_eq _ (withU f hU i), has_eq _ hU, decide_eq_true h, Bool.true_and]
    by_cases hj : 0 ≤ j ∧ j ≤ 4096
    · rw [decide_eq_true hj, Bool.true_and, Bool.true_and, (with_eq f hU i h).1]
      unfold putF
      by_cases hq : j.toNat / 64 = i.toNat / 64
      · rw [if_pos hq, Int.toNat_natCast, Nat.testBit_or, Nat.testBit_two_pow, hq]
        congr 1
        rw [decide_eq_decide]; omega
      · rw [if_neg hq, decide_eq_false (by omega), Bool.or_false]
    · rw [decide_eq_false hj, decide_eq_false (by omega)]; rfl
  · unfold withF; rw [if_neg h, decide_eq_false h, Bool.false_and, Bool.or_false]
theorem ofU (l : List Int) : ∀ f, InU f → InU (l.foldl withF f) := by
  induction l with
  | nil => exact fun _ h => h
  | cons x l ih => exact fun f h => ih _ (withU f h x)
theorem has_fold (l : List Int) (j : Int) : ∀ f, InU f → hasF (l.foldl withF f) j = (hasF f j || (decide (0 ≤ j ∧ j ≤ 4096) && decide (j ∈ l))) := by
  induction l with
  | nil => intro f _; simp
  | cons x l ih =>
    intro f h
    rw [List.foldl_cons, ih _ (withU f h x), has_with f h x j, Bool.or_assoc]
    congr 1
    rw [Bool.eq_iff_iff]
    simp only [Bool.or_eq_true, Bool.and_eq_true, decide_eq_true_eq, List.mem_cons]
    constructor
    · rintro (⟨h1, h2⟩ | ⟨h1, h2⟩)
      · exact ⟨by omega, .inl h2.symm⟩
      · exact ⟨h1, .inr h2⟩
    · rintro ⟨h1, h2 | h2⟩
      · exact .inl ⟨by omega, h2.symm⟩
      · exact .inr ⟨h1, h2⟩
theorem has_zero (j : Int) : hasF zeroF j = false := by
  rw [has_eq _ zeroU]
  simp [zeroF]
theorem has_of (l : List Int) (j : Int) : hasF (l.foldl withF zeroF) j = (decide (0 ≤ j ∧ j ≤ 4096) && decide (j ∈ l)) := by
  rw [has_fold l j _ zeroU, has_zero, Bool.false_or]
end Go.Proofs.Ytmojlhpkidbklaa.Ag
namespace Go.Proofs.Ytmojlhpkidbklaa.Ag
open Go.RowKit
def bitF (f : Nat → Int) (j : Nat) : Bool := (f (j / 64)).toNat.testBit (j % 64)
theorem has_bit (f : Nat → Int) (hU : InU f) (i : Int) : hasF f i = (decide (0 ≤ i ∧ i ≤ 4096) && bitF f i.toNat) := has_eq f hU i
theorem eqF_bits (f g : Nat → Int) (hf : InU f) (hg : InU g) : eqF 65 f g = true ↔ ∀ j, j < 4160 → bitF f j = bitF g j := by
  rw [eqF_iff]
  constructor
  · intro h j hj
    unfold bitF
    rw [h (j / 64) (by omega)]
  · intro h i hi
    obtain ⟨m, e1, h1⟩ := hf i
    obtain ⟨n, e2, h2⟩ := hg i
    rw [e1, e2]
    congr 1
    refine Nat.eq_of_testBit_eq fun k => ?_
    by_cases hk : k < 64
    · have := h (64 * i + k) (by omega)
      unfold bitF at this
      rw [show (64 * i + k) / 64 = i by omega, show (64 * i + k) % 64 = k by omega, e1, e2] at this
      simpa using this
    · have hp : 2 ^ 64 ≤ 2 ^ k := Nat.pow_le_pow_right (by decide) (by omega)
      rw [Nat.testBit_lt_two_pow (by omega), Nat.testBit_lt_two_pow (by omega)]
theorem joinU (op : Int → Int → Int) (hop : ∀ a b : Nat, a < 2 ^ 64 → b < 2 ^ 64 → ∃ n : Nat, op a b = n ∧ n < 2 ^ 64) (f g : Nat → Int) (hf : InU f) (hg : InU g) : InU (joinF op f g 65) := by
  intro j
  obtain ⟨m, e1, h1⟩ := hf j
  obtain ⟨n, e2, h2⟩ := hg j
  unfold joinF
  split
  · rw [e1, e2]; exact hop m n h1 h2
  · exact ⟨m, e1, h1⟩
theorem orU (f g : Nat → Int) (hf : InU f) (hg : InU g) : InU (joinF (bits .or .u64) f g 65) :=
  joinU _ (fun a b ha hb => ⟨a ||| b, or_u a b ha hb, Nat.or_lt_two_pow ha hb⟩) f g hf hg
theorem andU (f g : Nat → Int) (hf : InU f) (hg : InU g) : InU (joinF (bits .and .u64) f g 65) :=
  joinU _ (fun a b ha hb => ⟨a &&& b, and_u a b ha hb, Nat.and_lt_two_pow a hb⟩) f g hf hg
theorem bit_or (f g : Nat → Int) (hf : InU f) (hg : InU g) (j : Nat) (hj : j < 4160) : bitF (joinF (bits .or .u64) f g 65) j = (bitF f j || bitF g j) := by
  obtain ⟨m, e1, h1⟩ := hf (j / 64)
  obtain ⟨n, e2, h2⟩ := hg (j / 64)
  unfold bitF joinF
  rw [if_pos (by omega), e1, e2, or_u m n h1 h2]
  simp
theorem bit_and (f g : Nat → Int) (hf : InU f) (hg : InU g) (j : Nat) (hj : j < 4160) : bitF (joinF (bits .and .u64) f g 65) j = (bitF f j && bitF g j) := by
  obtain ⟨m, e1, h1⟩ := hf (j / 64)
  obtain ⟨n, e2, h2⟩ := hg (j / 64)
  unfold bitF joinF
  rw [if_pos (by omega), e1, e2, and_u m n h1 h2]
  simp
theorem bit_with (f : Nat → Int) (hU : InU f) (i : Int) (j : Nat) : bitF (withF f i) j = (bitF f j || (decide (0 ≤ i ∧ i ≤ 4096) && decide (i = j))) := by
  by_cases h : 0 ≤ i ∧ i ≤ 4096
  · unfold bitF
    rw [decide_eq_true h, Bool.true_and, (with_eq f hU i h).1]
    unfold putF
    by_cases hq : j / 64 = i.toNat / 64
    · rw [if_pos hq, Int.toNat_natCast, Nat.testBit_or, Nat.testBit_two_pow, hq]
      congr 1
      rw [decide_eq_decide]; omega
    · rw [if_neg hq, decide_eq_false (by omega), Bool.or_false]
  · unfold withF; rw [if_neg h, decide_eq_false h, Bool.false_and, Bool.or_false]
theorem bit_fold (l : List Int) (j : Nat) : ∀ f, InU f → bitF (l.foldl withF f) j = (bitF f j || (decide (j ≤ 4096) && decide ((j : Int) ∈ l))) := by
  induction l with
  | nil => intro f _; simp
  | cons x l ih =>
    intro f h
    rw [List.foldl_cons, ih _ (withU f h x), bit_with f h x j, Bool.or_assoc]
    congr 1
    rw [Bool.eq_iff_iff]
    simp only [Bool.or_eq_true, Bool.and_eq_true, decide_eq_true_eq, List.mem_cons]
    constructor
    · rintro (⟨h1, h2⟩ | ⟨h1, h2⟩)
      · exact ⟨by omega, .inl h2.symm⟩
      · exact ⟨h1, .inr h2⟩
    · rintro ⟨h1, h2 | h2⟩
      · exact .inl ⟨by omega, h2.symm⟩
      · exact .inr ⟨h1, h2⟩
def ofF (l : List Int) : Nat → Int := l.foldl withF zeroF
theorem of_U (l : List Int) : InU (ofF l) := ofU l _ zeroU
theorem bit_of (l : List Int) (j : Nat) : bitF (ofF l) j = (decide (j ≤ 4096) && decide ((j : Int) ∈ l)) := by
  unfold ofF
  rw [bit_fold l j _ zeroU]
  simp [bitF, zeroF]
theorem has_or (f g : Nat → Int) (hf : InU f) (hg : InU g) (i : Int) : hasF (joinF (bits .or .u64) f g 65) i = (hasF f i || hasF g i) := by
  rw [has_bit _ (orU f g hf hg), has_bit _ hf, has_bit _ hg]
  by_cases h : 0 ≤ i ∧ i ≤ 4096
  · rw [decide_eq_true h, bit_or f g hf hg _ (by omega)]; rfl
  · rw [decide_eq_false h]; rfl
theorem has_and (f g : Nat → Int) (hf : InU f) (hg : InU g) (i : Int) : hasF (joinF (bits .and .u64) f g 65) i = (hasF f i && hasF g i) := by
  rw [has_bit _ (andU f g hf hg), has_bit _ hf, has_bit _ hg]
  by_cases h : 0 ≤ i ∧ i ≤ 4096
  · rw [decide_eq_true h, bit_and f g hf hg _ (by omega)]; rfl
  · rw [decide_eq_false h]; rfl
theorem or_comm_eq (f g : Nat → Int) (hf : InU f) (hg : InU g) : eqF 65 (joinF (bits .or .u64) f g 65) (joinF (bits .or .u64) g f 65) = true := by
  rw [eqF_bits _ _ (orU f g hf hg) (orU g f hg hf)]
  intro j hj
  rw [bit_or f g hf hg j hj, bit_or g f hg hf j hj, Bool.or_comm]
theorem and_comm_eq (f g : Nat → Int) (hf : InU f) (hg : InU g) : eqF 65 (joinF (bits .and .u64) f g 65) (joinF (bits .and .u64) g f 65) = true := by
  rw [eqF_bits _ _ (andU f g hf hg) (andU g f hg hf)]
  intro j hj
  rw [bit_and f g hf hg j hj, bit_and g f hg hf j hj, Bool.and_comm]
theorem within_and (f g : Nat → Int) (hf : InU f) (hg : InU g) : eqF 65 (joinF (bits .and .u64) (joinF (bits .and .u64) f g 65) f 65) (joinF (bits .and .u64) f g 65) = true := by
  have h := andU f g hf hg
  rw [eqF_bits _ _ (andU _ f h hf) h]
  intro j hj
  rw [bit_and _ f h hf j hj, bit_and f g hf hg j hj]
  cases bitF f j <;> cases bitF g j <;> rfl
theorem within_or (f g : Nat → Int) (hf : InU f) (hg : InU g) : eqF 65 (joinF (bits .and .u64) f (joinF (bits .or .u64) f g 65) 65) f = true := by
  have h := orU f g hf hg
  rw [eqF_bits _ _ (andU f _ hf h) hf]
  intro j hj
  rw [bit_and f _ hf h j hj, bit_or f g hf hg j hj]
  cases bitF f j <;> cases bitF g j <;> rfl
/-- One is within the other one. -/
def inB (b : List Int) (k : Int) : Bool := decide (k < 0) || (decide (k > 4096) || decide (k ∈ b))
theorem within_of (a b : List Int) : eqF 65 (joinF (bits .and .u64) (ofF a) (ofF b) 65) (ofF a) = a.all (inB b) := by
  rw [Bool.eq_iff_iff, eqF_bits _ _ (andU _ _ (of_U a) (of_U b)) (of_U a), List.all_eq_true]
  constructor
  · intro h x hx
    unfold inB
    by_cases h0 : x < 0
    · simp [h0]
    by_cases h1 : x > 4096
    · simp [h1]
    have := h x.toNat (by omega)
    rw [bit_and _ _ (of_U a) (of_U b) _ (by omega), bit_of, bit_of, Int.toNat_of_nonneg (by omega)] at this
    simp [hx, show x.toNat ≤ 4096 by omega] at this
    simp [this]
  · intro h j hj
    rw [bit_and _ _ (of_U a) (of_U b) _ hj, bit_of, bit_of]
    by_cases hm : (j : Int) ∈ a
    · have := h _ hm
      unfold inB at this
      simp only [Bool.or_eq_true, decide_eq_true_eq] at this
      by_cases h4 : j ≤ 4096
      · have hb : (j : Int) ∈ b := by
          rcases this with h1 | h1 | h1
          · omega
          · omega
          · exact h1
        simp [hm, hb]
      · simp [h4]
    · simp [hm]
end Go.Proofs.Ytmojlhpkidbklaa.Ag
namespace Go.Proofs.Ytmojlhpkidbklaa.Pure
open Go.RowKit Go.Proofs.YtmojlhpkidbklaaW.PrintWords Go.Proofs.YtmojlhpkidbklaaW.PrintLast Go.Proofs.YtmojlhpkidbklaaW.PrintMore
theorem Ev.succ {α : Type} {g : Nat → Option α} {r : α} (h : Ev (fun k => g (k + 1)) r) : Ev g r := Ev.step (fun _ => rfl) h
theorem Ev.all {α : Type} {g : Nat → Option α} {r : α} (h : ∀ k, g k = some r) : Ev g r := ⟨0, fun k _ => h k⟩
theorem Ev.pos {α : Type} {g : Nat → Option α} {r : α} (h : ∀ k, g (k + 1) = some r) : Ev g r := ⟨1, fun k hk => by obtain ⟨j, rfl⟩ : ∃ j, k = j + 1 := ⟨k - 1, by omega⟩; exact h j⟩
theorem wrap_id {x : Int} (h : -9223372036854775808 ≤ x ∧ x ≤ 9223372036854775807) : wrap64 x = x := by unfold wrap64; omega
theorem mn_eq (a b : Int) : mn a b = min a b := by unfold mn; split <;> omega
theorem mx_eq (a b : Int) : mx a b = max a b := by unfold mx; split <;> omega
end Go.Proofs.Ytmojlhpkidbklaa.Pure
namespace Go.Proofs.Ytmojlhpkidbklaa.Pure
open Go.RowKit Go.Proofs.Ytmojlhpkidbklaa.Xw Go.Proofs.Ytmojlhpkidbklaa.PAll Go.Proofs.YtmojlhpkidbklaaW.PrintWords Go.Proofs.YtmojlhpkidbklaaW.PrintLast Go.Proofs.YtmojlhpkidbklaaW.PrintMore
open Go.Proofs.Ytmojlhpkidbklaa.Ag (hasF withF zeroF has_of)
abbrev RunS := S86
def lastR (out : List RunS) : RunS := rd_T86 out ((out.length : Int) - 1)
def stepR (out : List RunS) (i : Int) (is : Bool) : List RunS :=
  if 0 < out.length ∧ (lastR out).f2 = is then out.set (out.length - 1) ⟨(lastR out).f0, i + 1, (lastR out).f2⟩ else out ++ [⟨i, i + 1, is⟩]
def runsR (p : Int → Bool) : Nat → Int → List RunS → List RunS
  | 0, _, out => out
  | d + 1, i, out => runsR p d (i + 1) (stepR out i (p i))
def LastAt (i : Int) (out : List RunS) : Prop := 0 < out.length → (lastR out).f1 = i
theorem lastR_snoc (out : List RunS) (x : RunS) : lastR (out ++ [x]) = x := by
  unfold lastR rd_T86
  have e : (((out ++ [x]).length : Int) - 1).toNat = out.length := by simp
  rw [e, List.getD_eq_getElem?_getD]; simp
theorem lastR_set (out : List RunS) (x : RunS) (h : 0 < out.length) : lastR (out.set (out.length - 1) x) = x := by
  unfold lastR rd_T86
  have e : (((out.set (out.length - 1) x).length : Int) - 1).toNat = out.length - 1 := by rw [List.length_set]; omega
  rw [e, List.getD_eq_getElem?_getD, List.getElem?_set_self (by omega)]; rfl
theorem step_last (out : List RunS) (i : Int) (is : Bool) : LastAt (i + 1) (stepR out i is) := by
  intro _
  unfold stepR
  split
  · rename_i h; rw [lastR_set _ _ h.1]
  · rw [lastR_snoc]
theorem step_len (out : List RunS) (i : Int) (is : Bool) : (stepR out i is).length ≤ out.length + 1 := by
  unfold stepR
  split
  · rw [List.length_set]; omega
  · simp
theorem runs_loop (F : Nat → Int) (tt : Int) (ht : tt ≤ 4097) (d : Nat) : ∀ (i : Int) (out : List RunS), 0 ≤ i → (tt - i = d ∨ (tt ≤ i ∧ d = 0)) → out.length ≤ i → LastAt i out →
    Ev (fun k => bitmap_Runs.l0 k tt out i F) (runsR (hasF F) d i out) := by
  induction d with
  | zero =>
    intro i out h0 h1 h2 h3
    refine Ev.pos (fun k => ?_)
    simp only [bitmap_Runs.l0]
    rw [if_neg (by omega)]
    unfold api_Run.f
    rw [if_pos (by omega), if_pos (Int.le_refl _), Int.toNat_natCast, List.take_length]; rfl
  | succ d ih =>
    intro i out h0 h1 h2 h3
    have hlt : i < tt := by omega
    have hs := step_len out i (hasF F i)
    have hn := ih (i + 1) (stepR out i (hasF F i)) (by omega) (by omega) (by omega) (step_last _ _ _)
    refine Ev.step (fun k => ?_) hn
    simp only [bitmap_Runs.l0]
    rw [if_pos hlt]
    unfold bitmap_Map_Has.f
    rw [Option.bind_some, wrap_id (x := i + 1) (by omega)]
    unfold stepR
    by_cases hl : (out.length : Int) > 0
    · rw [if_pos hl, wrap_id (by omega), if_pos (by omega), if_pos (by omega)]
      have hf := h3 (by omega)
      have e : rd_T86 out ((out.length : Int) - 1) = lastR out := rfl
      rw [e]
      by_cases hc : (lastR out).f2 = hasF F i
      · rw [if_pos (by rw [hc]; simp), if_pos ⟨by omega, hc⟩, hf, wrap_id (by omega)]
        have e2 : ((out.length : Int) - 1).toNat = out.length - 1 := by omega
        rw [e2]
      · rw [if_neg (by simpa using hc), if_pos (by omega), if_neg (fun h => hc h.2)]
    · rw [if_neg hl, if_pos (by omega), if_neg (fun h => by omega)]
theorem runs_ev (F : Nat → Int) (a b : Int) (d : Nat) (hd : mn b 4097 - mx a 0 = d ∨ (mn b 4097 ≤ mx a 0 ∧ d = 0)) : Ev (fun k => bitmap_Runs.f k F a b) (runsR (hasF F) d (mx a 0) []) := by
  have h1 := mx_eq a 0
  have h2 := mn_eq b 4097
  exact runs_loop F (mn b 4097) (by omega) d (mx a 0) [] (by omega) hd (by simp; omega) (fun h => by simp at h)
theorem in_loop (l : List Int) (x : Int) (hl : l.length ≤ 100000) (d : Nat) : ∀ i : Int, 0 ≤ i → i ≤ l.length → (l.length : Int) - i = d → Ev (fun k => spenceref01_In.l0 k x l l.length i) (decide (x ∈ l.drop i.toNat)) := by
  induction d with
  | zero =>
    intro i h0 h1 hd
    refine Ev.pos (fun k => ?_)
    simp only [spenceref01_In.l0]
    rw [if_neg (by omega), List.drop_of_length_le (by omega)]; simp
  | succ d ih =>
    intro i h0 h1 hd
    have hi : i.toNat < l.length := by omega
    have e1 : (i + 1).toNat = i.toNat + 1 := by omega
    have hn := ih (i + 1) (by omega) (by omega) (by omega)
    rw [e1] at hn
    have hr : rd l i = l[i.toNat] := by unfold rd; simp [List.getD_eq_getElem?_getD, List.getElem?_eq_getElem hi]
    rw [List.drop_eq_getElem_cons hi]
    generalize l[i.toNat] = y at hr
    refine Ev.succ ?_
    simp only [spenceref01_In.l0, show i < (l.length : Int) by omega, h0, if_true, hr]
    by_cases hy : y = x
    · simp only [hy, if_true]; rw [decide_eq_true List.mem_cons_self]; exact Ev.now _
    · simp only [hy, if_false]
      rw [wrap_id (by omega)]
      have : decide (x ∈ y :: l.drop (i.toNat + 1)) = decide (x ∈ l.drop (i.toNat + 1)) := by
        rw [decide_eq_decide, List.mem_cons]
        exact ⟨fun h => h.resolve_left (fun e => hy e.symm), .inr⟩
      rw [this]; exact hn
theorem in_ev (l : List Int) (x : Int) (hl : l.length ≤ 100000) : Ev (fun k => spenceref01_In.f k l x) (decide (x ∈ l)) := by
  have := in_loop l x hl l.length 0 (by omega) (by omega) (by omega)
  rwa [Int.toNat_zero, List.drop_zero] at this
theorem runsR_congr (p q : Int → Bool) : ∀ (d : Nat) (i : Int) (out : List RunS), (∀ x, i ≤ x → x < i + d → p x = q x) → runsR p d i out = runsR q d i out
  | 0, _, _, _ => rfl
  | d + 1, i, out, h => by rw [runsR, runsR, h i (by omega) (by omega), runsR_congr p q d (i + 1) _ (fun x h1 h2 => h x (by omega) (by omega))]
theorem awake18 : Ev (fun k => spencelaw18_awake.f k) true := by
  unfold spencelaw18_awake.f bitmap_Of.f
  simp only [Option.bind_some]
  have h := runs_ev (([1, 2] : List Int).foldl withF zeroF) 0 4 4 (.inl (by decide))
  refine Ev.bind h ?_
  have e : runsR (hasF (([1, 2] : List Int).foldl withF zeroF)) 4 (mx 0 0) [] = [⟨0, 1, false⟩, ⟨1, 3, true⟩, ⟨3, 4, false⟩] := by
    rw [runsR_congr _ (fun x => decide (0 ≤ x ∧ x ≤ 4096) && decide (x ∈ ([1, 2] : List Int))) 4 _ _ (fun x _ _ => has_of _ x)]
    rfl
  rw [e]
  exact Ev.now _
end Go.Proofs.Ytmojlhpkidbklaa.Pure
namespace Go.Proofs.Ytmojlhpkidbklaa.Ag
open Go.RowKit Go.Proofs.Ytmojlhpkidbklaa.Xw Go.Proofs.Ytmojlhpkidbklaa.PAll Go.Proofs.YtmojlhpkidbklaaW.PrintWords Go.Proofs.YtmojlhpkidbklaaW.PrintLast Go.Proofs.YtmojlhpkidbklaaW.PrintMore
open Go.Proofs.Ytmojlhpkidbklaa.Pure (awake18 in_ev)
attribute [local go_sem ↓] Go.wp_at_zero Go.wp_at_succ map_eql ldMap_eq
theorem all_snoc (p : Int → Bool) (l : List Int) (k : Nat) (h : k < l.length) : (l.take (k + 1)).all p = ((l.take k).all p && p (rd l k)) := by
  rw [List.take_succ_eq_append_getElem h, List.all_append]
  unfold rd
  simp [List.getD_eq_getElem?_getD, List.getElem?_eq_getElem h]
theorem awake_any (w : World) : Calls Try.prog 24 #[] w fun e w' => e = .returned (.bool true) ∧ Below w.heap.size w w' := by
  obtain ⟨k, hk⟩ := awake18
  exact spencelaw18_awake.calls k true w (hk k (Nat.le_refl _))
theorem in_any (A : Option Addr) (c : Nat) (l : List Int) (x : Int) (hl : l.length ≤ 100000) (w : World) (hr : Kd.C (Kd.int .i64) w A l.length l) (hc : l.length ≤ c) :
    Calls Try.prog 29 #[.slice A l.length c, .int .i64 x] w fun e w' => e = .returned (.bool (decide (x ∈ l))) ∧ Drawn0 w w' := by
  obtain ⟨k, hk⟩ := in_ev l x hl
  exact spenceref01_In.calls k A c l x _ w hr hc (hk k (Nat.le_refl _))
set_option linter.unusedSimpArgs false in
set_option maxHeartbeats 16000000 in
set_option maxRecDepth 100000 in
theorem two_calls (A0 : Option Addr) (c0 : Nat) (l0 : List Int) (A1 : Option Addr) (c1 : Nat) (l1 : List Int) (a2 : Int) (w : World) (hr0 : Kd.C (Kd.int .i64) w A0 l0.length l0) (hc0 : l0.length ≤ c0) (hr1 : Kd.C (Kd.int .i64) w A1 l1.length l1) (hc1 : l1.length ≤ c1) :
    Calls Try.prog 8 #[.slice A0 l0.length c0, .slice A1 l1.length c1, .int .i64 a2] w fun e w' => e = .returned (.bool true) ∧ Below w.heap.size w w' := by
  have HR0 := Aside0.mk hr0
  have HR1 := Aside0.mk hr1
  clear hr0 hr1
  by_cases d0 : (l0.length : Int) > 60
  · have d0' := decide_eq_true d0
    go_enter Try.func8, Try.ntmps8
    go_wp2_with (fail)
    refine (awake_any _).mono ?_
    rintro e w' ⟨rfl, hb⟩
    dsimp only
    go_wp2_with (fail)
    go_ret
    exact ⟨rfl, hb⟩
  by_cases d1 : (l1.length : Int) > 60
  · have d1' := decide_eq_true d1
    have d0' := decide_eq_false d0
    go_enter Try.func8, Try.ntmps8
    go_wp2_with (fail)
    refine (awake_any _).mono ?_
    rintro e w' ⟨rfl, hb⟩
    dsimp only
    go_wp2_with (fail)
    go_ret
    exact ⟨rfl, hb⟩
  have d1' := decide_eq_false d1
  have d0' := decide_eq_false d0
  go_enter Try.func8, Try.ntmps8
  go_wp2_with (fail)
  refine (awake_any _).mono ?_
  rintro e w1 ⟨rfl, hb1⟩
  dsimp only
  have HB1 := Aside0.mk hb1
  clear hb1
  go_wp2_with (fail)
  refine (of_calls A0 c0 l0 _ (Kd.C_below HR0.out HB1.out) hc0).mono ?_
  rintro e w2 ⟨rfl, hb2⟩
  dsimp only
  have HB2 := Aside0.mk (below_step HB1.out hb2)
  clear hb2
  go_wp2_with (fail)
  refine (of_calls A1 c1 l1 _ (Kd.C_below HR1.out HB2.out) hc1).mono ?_
  rintro e v ⟨rfl, hb3⟩
  dsimp only
  have HB := Aside0.mk (below_step HB2.out hb3)
  clear hb3
  have BK1 := Aside0.mk (blk_alloc (blk_new v (.cells Try.zeroCells44 44 (0, 0))) (.cells Try.zeroCells44 44 (0, 0)))
  have BK2 := blk_new (v.alloc (.cells Try.zeroCells44 44 (0, 0))) (.cells Try.zeroCells44 44 (0, 0))
  rw [alloc_size] at BK2
  replace BK2 := Aside0.mk BK2
  have HV := Aside0.mk (below_alloc (below_alloc (Below.refl v.heap.size v) (.cells Try.zeroCells44 44 (0, 0))) (.cells Try.zeroCells44 44 (0, 0)))
  obtain ⟨fx, hfx⟩ : ∃ fx, ofF l0 = fx := ⟨_, rfl⟩
  obtain ⟨fy, hfy⟩ : ∃ fy, ofF l1 = fy := ⟨_, rfl⟩
  rw [show l0.foldl withF zeroF = fx from hfx, show l1.foldl withF zeroF = fy from hfy]
  have ux : InU fx := by rw [← hfx]; exact of_U l0
  have uy : InU fy := by rw [← hfy]; exact of_U l1
  have hW := within_of l0 l1
  rw [hfx, hfy] at hW
  have EO := or_comm_eq fx fy ux uy
  have EA := and_comm_eq fx fy ux uy
  have WA := within_and fx fy ux uy
  have WO := within_or fx fy ux uy
  have PO := has_or fx fy ux uy a2
  have PA := has_and fx fy ux uy a2
  have CO := or_calls fx fy
  have CO' := or_calls fy fx
  have CA := and_calls fx fy
  have CA' := and_calls fy fx
  have CW := within_calls fx fy
  rw [hW] at CW
  have CWA := within_calls (joinF (bits .and .u64) fx fy 65) fx
  rw [WA] at CWA
  have CWO := within_calls fx (joinF (bits .or .u64) fx fy 65)
  rw [WO] at CWO
  have Cx := has_calls fx a2
  have Cy := has_calls fy a2
  have COh := has_calls (joinF (bits .or .u64) fx fy 65) a2
  rw [PO] at COh
  have CAh := has_calls (joinF (bits .and .u64) fx fy 65) a2
  rw [PA] at CAh
  clear PO PA WA WO hW hfx hfy ux uy
  generalize hasF fx a2 = p at Cx COh CAh
  generalize hasF fy a2 = q at Cy COh CAh
  generalize joinF (bits .or .u64) fx fy 65 = fO at EO CO CWO COh
  generalize joinF (bits .or .u64) fy fx 65 = fO' at EO CO'
  generalize joinF (bits .and .u64) fx fy 65 = fA at EA CA CWA CAh
  generalize joinF (bits .and .u64) fy fx 65 = fA' at EA CA'
  replace EO := Aside0.mk EO
  replace EA := Aside0.mk EA
  replace CO := Aside0.mk CO
  replace CO' := Aside0.mk CO'
  replace CA := Aside0.mk CA
  replace CA' := Aside0.mk CA'
  replace CW := Aside0.mk CW
  replace CWA := Aside0.mk CWA
  replace CWO := Aside0.mk CWO
  replace Cx := Aside0.mk Cx
  replace Cy := Aside0.mk Cy
  replace COh := Aside0.mk COh
  replace CAh := Aside0.mk CAh
  go_wp2_with (first | ((with_reducible refine gate_store (t := 44) (p := 7) rfl ?_); refine row_store rfl 44 (.tmp 7) (.tmp 23) rfl rfl v.heap.size rfl .u64 65 fx rfl _ 44 BK1.out info_map (by rw [zero_map, agC_size]) ?_; intro w3 X1 X2 X3; replace X1 := Aside0.mk X1; replace X2 := Aside0.mk X2; have X3 := Aside0.mk X3) | ((with_reducible refine gate_store (t := 44) (p := 8) rfl ?_); refine row_store rfl 44 (.tmp 8) (.tmp 25) rfl rfl (v.heap.size + 1) rfl .u64 65 fy rfl _ 44 ((X2.out _ (by omega)).trans BK2.out) info_map (by rw [zero_map, agC_size]) ?_; intro w4 Y1 Y2 Y3; replace Y1 := Aside0.mk Y1; replace Y2 := Aside0.mk Y2; have Y3 := Aside0.mk Y3))
  have KK : Two fx fy v w4 := ⟨(Y2.out _ (by omega)).trans X1.out, Y1.out, Y3.out _ _ (X3.out _ _ HV.out (Nat.le_refl _)) (by omega)⟩
  clear BK1 BK2 HV X1 X2 X3 Y1 Y2 Y3
  replace KK := Aside0.mk KK
  go_loopg [9, 11, 28] l0.length (fun gg s9 _ s28 wr => ∃ kk : Nat, ∃ b : Bool, kk ≤ l0.length ∧ l0.length - kk ≤ gg ∧ s28 = .int .i64 kk ∧ s9 = .bool b ∧ Aside0 ((l0.take kk).all (inB l1) = b) ∧ Aside0 (Two fx fy v wr))
  case atStart => exact ⟨0, true, Nat.zero_le _, by omega, rfl, rfl, ⟨rfl⟩, KK⟩
  case round =>
    clear KK
    obtain ⟨kk, b, hkk, hg, rfl, rfl, hall, KK⟩ := hrel
    by_cases hlt : kk < l0.length
    · have hltz : (kk : Int) < (l0.length : Int) := by omega
      have HBr := below_step HB.out KK.out.2.2
      obtain ⟨ad, e1, hx⟩ := Kd.at_int (Kd.C_below HR0.out HBr) (kk : Int) (by omega) hltz
      cases e1
      simp only [Int.toNat_natCast] at hx
      have hin := in_any A1 c1 l1 (rd l0 kk) (by omega) wr (Kd.C_below HR1.out HBr) hc1
      have hnx : (l0.take (kk + 1)).all (inB l1) = (b && inB l1 (rd l0 kk)) := by rw [all_snoc _ _ _ hlt, hall.out]
      generalize rd l0 kk = x at hx hin hnx
      replace hnx := Aside0.mk hnx
      replace hin := Aside0.mk hin
      clear HBr hall
      cases b
      · go_wp2_with (fail)
        go_roundg (l0.length - (kk + 1))
        case measure => omega
        case rel => exact ⟨kk + 1, false, by omega, by omega, by go_num, rfl, ⟨by rw [hnx.out]; rfl⟩, KK⟩
      by_cases hx0 : x < 0
      · have q0 := decide_eq_true hx0
        have hin0 : inB l1 x = true := by unfold inB; rw [q0]; rfl
        replace hnx := Aside0.mk (hnx.out.trans (by rw [hin0]))
        clear hin hin0
        go_wp2_with (fail)
        go_roundg (l0.length - (kk + 1))
        case measure => omega
        case rel => exact ⟨kk + 1, true, by omega, by omega, by go_num, rfl, ⟨by rw [hnx.out]; rfl⟩, KK⟩
      by_cases hx1 : x > 4096
      · have q0 := decide_eq_false hx0
        have q1 := decide_eq_true hx1
        have hin0 : inB l1 x = true := by unfold inB; rw [q0, q1]; rfl
        replace hnx := Aside0.mk (hnx.out.trans (by rw [hin0]))
        clear hin hin0
        go_wp2_with (fail)
        go_roundg (l0.length - (kk + 1))
        case measure => omega
        case rel => exact ⟨kk + 1, true, by omega, by omega, by go_num, rfl, ⟨by rw [hnx.out]; rfl⟩, KK⟩
      have q0 := decide_eq_false hx0
      have q1 := decide_eq_false hx1
      have hin0 : inB l1 x = decide (x ∈ l1) := by unfold inB; rw [q0, q1]; rfl
      replace hnx := Aside0.mk (hnx.out.trans (by rw [hin0]))
      clear hin0
      generalize decide (x ∈ l1) = m at hin hnx
      go_wp2_with (fail)
      refine hin.out.mono ?_
      rintro e w5 ⟨rfl, hd⟩
      dsimp only
      replace KK := Aside0.mk (KK.out.step hd.below)
      clear hd hin
      cases m
      · go_wp2_with (fail)
        go_roundg (l0.length - (kk + 1))
        case measure => omega
        case rel => exact ⟨kk + 1, false, by omega, by omega, by go_num, rfl, ⟨by rw [hnx.out]; rfl⟩, KK⟩
      · go_wp2_with (fail)
        go_roundg (l0.length - (kk + 1))
        case measure => omega
        case rel => exact ⟨kk + 1, true, by omega, by omega, by go_num, rfl, ⟨by rw [hnx.out]; rfl⟩, KK⟩
    · have hltz : ¬ (kk : Int) < (l0.length : Int) := by omega
      obtain rfl : kk = l0.length := by omega
      have hb : l0.all (inB l1) = b := by rw [← hall.out, List.take_length]
      replace CW := CW.out
      rw [hb] at CW
      replace CW := Aside0.mk CW
      clear hb hall hkk hg hlt HR0 HR1
      have hS1 := fun W h => @Two.ld1 fx fy v W h
      have hS2 := fun W h => @Two.ld2 fx fy v W h
      replace KK := KK.out
      replace EO := EO.out
      replace EA := EA.out
      have hbb : (b == b) = true := by cases b <;> rfl
      have hqq : (q == q) = true := by cases q <;> rfl
      clear d0 d1 d0' d1' hc0 hc1 HB1 HB2
      cases p
      · simp only [Bool.false_or, Bool.true_or, Bool.false_and, Bool.true_and] at COh CAh
        go_wp2_with (fail)
        refine wp_region_held_drew (S := fun W => Two fx fy v W) (by kernel_rfl) KK.drew (fun hHeld => ?_)
        clear KK
        refine wpAnyH_take (i := 0) (v := ?_) rfl (by kernel_rfl) (by kernel_rfl) (by kernel_rfl) (fun _ _ _ h => h) (Or.inl ⟨by kernel_rfl, ?_⟩) (by assumption) ?_
        rotate_left
        · intro W hSw; go_simp; first | done | with_reducible rfl
        try simp only [Act.put, List.setIfInBounds_toArray, List.set_cons_zero, List.set_cons_succ]
        refine wpAnyH_take (i := 1) (v := ?_) rfl (by kernel_rfl) (by kernel_rfl) (by kernel_rfl) (fun _ _ _ h => h) (Or.inl ⟨by kernel_rfl, ?_⟩) (by assumption) ?_
        rotate_left
        · intro W hSw; go_simp; first | done | with_reducible rfl
        try simp only [Act.put, List.setIfInBounds_toArray, List.set_cons_zero, List.set_cons_succ]
        refine wpAnyH_take (i := 3) (v := ?_) rfl (by kernel_rfl) (by kernel_rfl) (by kernel_rfl) (fun _ _ _ h => h) (Or.inl ⟨by kernel_rfl, ?_⟩) (by assumption) ?_
        rotate_left
        · intro W hSw; go_simp; first | done | with_reducible rfl
        try simp only [Act.put, List.setIfInBounds_toArray, List.set_cons_zero, List.set_cons_succ]
        refine wpAnyH_take (i := 5) (v := ?_) rfl (by kernel_rfl) (by kernel_rfl) (by kernel_rfl) (fun _ _ _ h => h) (Or.inl ⟨by kernel_rfl, ?_⟩) (by assumption) ?_
        rotate_left
        · intro W hSw; go_simp; first | done | with_reducible rfl
        try simp only [Act.put, List.setIfInBounds_toArray, List.set_cons_zero, List.set_cons_succ]
        refine wpAnyH_take (i := 6) (v := ?_) rfl (by kernel_rfl) (by kernel_rfl) (by kernel_rfl) (fun _ _ _ h => h) (Or.inl ⟨by kernel_rfl, ?_⟩) (by assumption) ?_
        rotate_left
        · intro W hSw; go_simp; first | done | with_reducible rfl
        try simp only [Act.put, List.setIfInBounds_toArray, List.set_cons_zero, List.set_cons_succ]
        refine wpAnyH_ready (rs := [2]) (by kernel_rfl) (by simp) ?_
        refine AllReadyH.cons rfl (fun K hK => ?_) AllReadyH.nil
        go_simp
        with_reducible refine (CO.out _).mono ?_; rintro e w' ⟨rfl, hb⟩; dsimp only
        refine hK.out _ _ ?_ (fun hHeld => ?_)
        · exact Two.step ‹Two _ _ _ _› hb
        clear hK K
        try simp only [Act.put, List.setIfInBounds_toArray, List.set_cons_zero, List.set_cons_succ]
        refine wpAnyH_ready (rs := [4]) (by kernel_rfl) (by simp) ?_
        refine AllReadyH.cons rfl (fun K hK => ?_) AllReadyH.nil
        go_simp
        with_reducible refine (COh.out _).mono ?_; rintro e w' ⟨rfl, hb⟩; dsimp only
        refine hK.out _ _ ?_ (fun hHeld => ?_)
        · exact Two.step ‹Two _ _ _ _› hb
        clear hK K
        try simp only [Act.put, List.setIfInBounds_toArray, List.set_cons_zero, List.set_cons_succ]
        refine wpAnyH_ready (rs := [7]) (by kernel_rfl) (by simp) ?_
        refine AllReadyH.cons rfl (fun K hK => ?_) AllReadyH.nil
        go_simp
        with_reducible refine (Cx.out _).mono ?_; rintro e w' ⟨rfl, hb⟩; dsimp only
        refine hK.out _ _ ?_ (fun hHeld => ?_)
        · exact Two.step ‹Two _ _ _ _› hb
        clear hK K
        try simp only [Act.put, List.setIfInBounds_toArray, List.set_cons_zero, List.set_cons_succ]
        refine wpAnyH_take (i := 8) (v := ?_) rfl (by kernel_rfl) (by kernel_rfl) (by kernel_rfl) (fun _ _ _ h => h) (Or.inl ⟨by kernel_rfl, ?_⟩) (by assumption) ?_
        rotate_left
        · intro W hSw; go_simp; first | done | with_reducible rfl
        try simp only [Act.put, List.setIfInBounds_toArray, List.set_cons_zero, List.set_cons_succ]
        refine wpAnyH_take (i := 9) (v := ?_) rfl (by kernel_rfl) (by kernel_rfl) (by kernel_rfl) (fun _ _ _ h => h) (Or.inl ⟨by kernel_rfl, ?_⟩) (by assumption) ?_
        rotate_left
        · intro W hSw; go_simp; first | done | with_reducible rfl
        try simp only [Act.put, List.setIfInBounds_toArray, List.set_cons_zero, List.set_cons_succ]
        refine wpAnyH_take (i := 10) (v := ?_) rfl (by kernel_rfl) (by kernel_rfl) (by kernel_rfl) (fun _ _ _ h => h) (Or.inl ⟨by kernel_rfl, ?_⟩) (by assumption) ?_
        rotate_left
        · intro W hSw; go_simp; first | done | with_reducible rfl
        try simp only [Act.put, List.setIfInBounds_toArray, List.set_cons_zero, List.set_cons_succ]
        refine wpAnyH_ready (rs := [11]) (by kernel_rfl) (by simp) ?_
        refine AllReadyH.cons rfl (fun K hK => ?_) AllReadyH.nil
        go_simp
        with_reducible refine (Cy.out _).mono ?_; rintro e w' ⟨rfl, hb⟩; dsimp only
        refine hK.out _ _ ?_ (fun hHeld => ?_)
        · exact Two.step ‹Two _ _ _ _› hb
        clear hK K
        try simp only [Act.put, List.setIfInBounds_toArray, List.set_cons_zero, List.set_cons_succ]
        refine wpAnyH_take (i := 12) (v := ?_) rfl (by kernel_rfl) (by kernel_rfl) (by kernel_rfl) (fun _ _ _ h => h) (Or.inl ⟨by kernel_rfl, ?_⟩) (by assumption) ?_
        rotate_left
        · intro W hSw; go_simp; first | done | with_reducible rfl
        try simp only [Act.put, List.setIfInBounds_toArray, List.set_cons_zero, List.set_cons_succ]
        refine wpAnyH_take (i := 13) (v := ?_) rfl (by kernel_rfl) (by kernel_rfl) (by kernel_rfl) (fun _ _ _ h => h) (Or.inl ⟨by kernel_rfl, ?_⟩) (by assumption) ?_
        rotate_left
        · intro W hSw; go_simp; first | done | with_reducible rfl
        try simp only [Act.put, List.setIfInBounds_toArray, List.set_cons_zero, List.set_cons_succ]
        refine wpAnyH_take (i := 14) (v := ?_) rfl (by kernel_rfl) (by kernel_rfl) (by kernel_rfl) (fun _ _ _ h => h) (Or.inl ⟨by kernel_rfl, ?_⟩) (by assumption) ?_
        rotate_left
        · intro W hSw; go_simp; first | done | with_reducible rfl
        try simp only [Act.put, List.setIfInBounds_toArray, List.set_cons_zero, List.set_cons_succ]
        refine wpAnyH_take (i := 15) (v := ?_) rfl (by kernel_rfl) (by kernel_rfl) (by kernel_rfl) (fun _ _ _ h => h) (Or.inl ⟨by kernel_rfl, ?_⟩) (by assumption) ?_
        rotate_left
        · intro W hSw; go_simp; first | done | with_reducible rfl
        try simp only [Act.put, List.setIfInBounds_toArray, List.set_cons_zero, List.set_cons_succ]
        refine wpAnyH_take (i := 16) (v := ?_) rfl (by kernel_rfl) (by kernel_rfl) (by kernel_rfl) (fun _ _ _ h => h) (Or.inl ⟨by kernel_rfl, ?_⟩) (by assumption) ?_
        rotate_left
        · intro W hSw; go_simp; first | done | with_reducible rfl
        try simp only [Act.put, List.setIfInBounds_toArray, List.set_cons_zero, List.set_cons_succ]
        refine wpAnyH_take (i := 18) (v := ?_) rfl (by kernel_rfl) (by kernel_rfl) (by kernel_rfl) (fun _ _ _ h => h) (Or.inl ⟨by kernel_rfl, ?_⟩) (by assumption) ?_
        rotate_left
        · intro W hSw; go_simp; first | done | with_reducible rfl
        try simp only [Act.put, List.setIfInBounds_toArray, List.set_cons_zero, List.set_cons_succ]
        refine wpAnyH_take (i := 20) (v := ?_) rfl (by kernel_rfl) (by kernel_rfl) (by kernel_rfl) (fun _ _ _ h => h) (Or.inl ⟨by kernel_rfl, ?_⟩) (by assumption) ?_
        rotate_left
        · intro W hSw; go_simp; first | done | with_reducible rfl
        try simp only [Act.put, List.setIfInBounds_toArray, List.set_cons_zero, List.set_cons_succ]
        refine wpAnyH_take (i := 21) (v := ?_) rfl (by kernel_rfl) (by kernel_rfl) (by kernel_rfl) (fun _ _ _ h => h) (Or.inl ⟨by kernel_rfl, ?_⟩) (by assumption) ?_
        rotate_left
        · intro W hSw; go_simp; first | done | with_reducible rfl
        try simp only [Act.put, List.setIfInBounds_toArray, List.set_cons_zero, List.set_cons_succ]
        refine wpAnyH_ready (rs := [17]) (by kernel_rfl) (by simp) ?_
        refine AllReadyH.cons rfl (fun K hK => ?_) AllReadyH.nil
        go_simp
        with_reducible refine (CA.out _).mono ?_; rintro e w' ⟨rfl, hb⟩; dsimp only
        refine hK.out _ _ ?_ (fun hHeld => ?_)
        · exact Two.step ‹Two _ _ _ _› hb
        clear hK K
        try simp only [Act.put, List.setIfInBounds_toArray, List.set_cons_zero, List.set_cons_succ]
        refine wpAnyH_ready (rs := [19]) (by kernel_rfl) (by simp) ?_
        refine AllReadyH.cons rfl (fun K hK => ?_) AllReadyH.nil
        go_simp
        with_reducible refine (CAh.out _).mono ?_; rintro e w' ⟨rfl, hb⟩; dsimp only
        refine hK.out _ _ ?_ (fun hHeld => ?_)
        · exact Two.step ‹Two _ _ _ _› hb
        clear hK K
        try simp only [Act.put, List.setIfInBounds_toArray, List.set_cons_zero, List.set_cons_succ]
        refine wpAnyH_ready (rs := [22]) (by kernel_rfl) (by simp) ?_
        refine AllReadyH.cons rfl (fun K hK => ?_) AllReadyH.nil
        go_simp
        with_reducible refine (Cx.out _).mono ?_; rintro e w' ⟨rfl, hb⟩; dsimp only
        refine hK.out _ _ ?_ (fun hHeld => ?_)
        · exact Two.step ‹Two _ _ _ _› hb
        clear hK K
        try simp only [Act.put, List.setIfInBounds_toArray, List.set_cons_zero, List.set_cons_succ]
        refine wpAnyH_take (i := 23) (v := ?_) rfl (by kernel_rfl) (by kernel_rfl) (by kernel_rfl) (fun _ _ _ h => h) (Or.inl ⟨by kernel_rfl, ?_⟩) (by assumption) ?_
        rotate_left
        · intro W hSw; go_simp; first | done | with_reducible rfl
        try simp only [Act.put, List.setIfInBounds_toArray, List.set_cons_zero, List.set_cons_succ]
        refine wpAnyH_take (i := 24) (v := undef) rfl (by kernel_rfl) (by kernel_rfl) (by kernel_rfl) (fun _ _ _ h => h) (Or.inr ⟨by kernel_rfl, rfl⟩) (by assumption) ?_
        try simp only [Act.put, List.setIfInBounds_toArray, List.set_cons_zero, List.set_cons_succ]
        refine wpAnyH_take (i := 25) (v := undef) rfl (by kernel_rfl) (by kernel_rfl) (by kernel_rfl) (fun _ _ _ h => h) (Or.inr ⟨by kernel_rfl, rfl⟩) (by assumption) ?_
        try simp only [Act.put, List.setIfInBounds_toArray, List.set_cons_zero, List.set_cons_succ]
        refine wpAnyH_take (i := 26) (v := undef) rfl (by kernel_rfl) (by kernel_rfl) (by kernel_rfl) (fun _ _ _ h => h) (Or.inr ⟨by kernel_rfl, rfl⟩) (by assumption) ?_
        try simp only [Act.put, List.setIfInBounds_toArray, List.set_cons_zero, List.set_cons_succ]
        refine wpAnyH_take (i := 27) (v := ?_) rfl (by kernel_rfl) (by kernel_rfl) (by kernel_rfl) (fun _ _ _ h => h) (Or.inl ⟨by kernel_rfl, ?_⟩) (by assumption) ?_
        rotate_left
        · intro W hSw; go_simp; first | done | with_reducible rfl
        try simp only [Act.put, List.setIfInBounds_toArray, List.set_cons_zero, List.set_cons_succ]
        refine wpAnyH_take (i := 28) (v := ?_) rfl (by kernel_rfl) (by kernel_rfl) (by kernel_rfl) (fun _ _ _ h => h) (Or.inl ⟨by kernel_rfl, ?_⟩) (by assumption) ?_
        rotate_left
        · intro W hSw; go_simp; first | done | with_reducible rfl
        try simp only [Act.put, List.setIfInBounds_toArray, List.set_cons_zero, List.set_cons_succ]
        refine wpAnyH_take (i := 29) (v := ?_) rfl (by kernel_rfl) (by kernel_rfl) (by kernel_rfl) (fun _ _ _ h => h) (Or.inl ⟨by kernel_rfl, ?_⟩) (by assumption) ?_
        rotate_left
        · intro W hSw; go_simp; first | done | with_reducible rfl
        try simp only [Act.put, List.setIfInBounds_toArray, List.set_cons_zero, List.set_cons_succ]
        refine wpAnyH_take (i := 30) (v := ?_) rfl (by kernel_rfl) (by kernel_rfl) (by kernel_rfl) (fun _ _ _ h => h) (Or.inl ⟨by kernel_rfl, ?_⟩) (by assumption) ?_
        rotate_left
        · intro W hSw; go_simp; first | done | with_reducible rfl
        try simp only [Act.put, List.setIfInBounds_toArray, List.set_cons_zero, List.set_cons_succ]
        refine wpAnyH_take (i := 31) (v := ?_) rfl (by kernel_rfl) (by kernel_rfl) (by kernel_rfl) (fun _ _ _ h => h) (Or.inl ⟨by kernel_rfl, ?_⟩) (by assumption) ?_
        rotate_left
        · intro W hSw; go_simp; first | done | with_reducible rfl
        try simp only [Act.put, List.setIfInBounds_toArray, List.set_cons_zero, List.set_cons_succ]
        refine wpAnyH_take (i := 32) (v := ?_) rfl (by kernel_rfl) (by kernel_rfl) (by kernel_rfl) (fun _ _ _ h => h) (Or.inl ⟨by kernel_rfl, ?_⟩) (by assumption) ?_
        rotate_left
        · intro W hSw; go_simp; first | done | with_reducible rfl
        try simp only [Act.put, List.setIfInBounds_toArray, List.set_cons_zero, List.set_cons_succ]
        refine wpAnyH_take (i := 34) (v := ?_) rfl (by kernel_rfl) (by kernel_rfl) (by kernel_rfl) (fun _ _ _ h => h) (Or.inl ⟨by kernel_rfl, ?_⟩) (by assumption) ?_
        rotate_left
        · intro W hSw; go_simp; first | done | with_reducible rfl
        try simp only [Act.put, List.setIfInBounds_toArray, List.set_cons_zero, List.set_cons_succ]
        refine wpAnyH_ready (rs := [33]) (by kernel_rfl) (by simp) ?_
        refine AllReadyH.cons rfl (fun K hK => ?_) AllReadyH.nil
        go_simp
        with_reducible refine (CW.out _).mono ?_; rintro e w' ⟨rfl, hb⟩; dsimp only
        refine hK.out _ _ ?_ (fun hHeld => ?_)
        · exact Two.step ‹Two _ _ _ _› hb
        clear hK K
        try simp only [Act.put, List.setIfInBounds_toArray, List.set_cons_zero, List.set_cons_succ]
        refine wpAnyH_take (i := 35) (v := ?_) rfl (by kernel_rfl) (by kernel_rfl) (by kernel_rfl) (fun _ _ _ h => h) (Or.inl ⟨by kernel_rfl, ?_⟩) (by assumption) ?_
        rotate_left
        · intro W hSw; go_simp; first | done | with_reducible rfl
        try simp only [Act.put, List.setIfInBounds_toArray, List.set_cons_zero, List.set_cons_succ]
        refine wpAnyH_take (i := 36) (v := ?_) rfl (by kernel_rfl) (by kernel_rfl) (by kernel_rfl) (fun _ _ _ h => h) (Or.inl ⟨by kernel_rfl, ?_⟩) (by assumption) ?_
        rotate_left
        · intro W hSw; go_simp; first | done | with_reducible rfl
        try simp only [Act.put, List.setIfInBounds_toArray, List.set_cons_zero, List.set_cons_succ]
        refine wpAnyH_take (i := 37) (v := ?_) rfl (by kernel_rfl) (by kernel_rfl) (by kernel_rfl) (fun _ _ _ h => h) (Or.inl ⟨by kernel_rfl, ?_⟩) (by assumption) ?_
        rotate_left
        · intro W hSw; go_simp; first | done | with_reducible rfl
        try simp only [Act.put, List.setIfInBounds_toArray, List.set_cons_zero, List.set_cons_succ]
        refine wpAnyH_take (i := 38) (v := ?_) rfl (by kernel_rfl) (by kernel_rfl) (by kernel_rfl) (fun _ _ _ h => h) (Or.inl ⟨by kernel_rfl, ?_⟩) (by assumption) ?_
        rotate_left
        · intro W hSw; go_simp; first | done | with_reducible rfl
        try simp only [Act.put, List.setIfInBounds_toArray, List.set_cons_zero, List.set_cons_succ]
        refine wpAnyH_take (i := 39) (v := ?_) rfl (by kernel_rfl) (by kernel_rfl) (by kernel_rfl) (fun _ _ _ h => h) (Or.inl ⟨by kernel_rfl, ?_⟩) (by assumption) ?_
        rotate_left
        · intro W hSw; go_simp; first | done | with_reducible rfl
        try simp only [Act.put, List.setIfInBounds_toArray, List.set_cons_zero, List.set_cons_succ]
        refine wpAnyH_take (i := 41) (v := ?_) rfl (by kernel_rfl) (by kernel_rfl) (by kernel_rfl) (fun _ _ _ h => h) (Or.inl ⟨by kernel_rfl, ?_⟩) (by assumption) ?_
        rotate_left
        · intro W hSw; go_simp; first | done | with_reducible rfl
        try simp only [Act.put, List.setIfInBounds_toArray, List.set_cons_zero, List.set_cons_succ]
        refine wpAnyH_take (i := 42) (v := ?_) rfl (by kernel_rfl) (by kernel_rfl) (by kernel_rfl) (fun _ _ _ h => h) (Or.inl ⟨by kernel_rfl, ?_⟩) (by assumption) ?_
        rotate_left
        · intro W hSw; go_simp; first | done | with_reducible rfl
        try simp only [Act.put, List.setIfInBounds_toArray, List.set_cons_zero, List.set_cons_succ]
        refine wpAnyH_ready (rs := [40]) (by kernel_rfl) (by simp) ?_
        refine AllReadyH.cons rfl (fun K hK => ?_) AllReadyH.nil
        go_simp
        with_reducible refine (CO.out _).mono ?_; rintro e w' ⟨rfl, hb⟩; dsimp only
        refine hK.out _ _ ?_ (fun hHeld => ?_)
        · exact Two.step ‹Two _ _ _ _› hb
        clear hK K
        try simp only [Act.put, List.setIfInBounds_toArray, List.set_cons_zero, List.set_cons_succ]
        refine wpAnyH_ready (rs := [43]) (by kernel_rfl) (by simp) ?_
        refine AllReadyH.cons rfl (fun K hK => ?_) AllReadyH.nil
        go_simp
        with_reducible refine (CO'.out _).mono ?_; rintro e w' ⟨rfl, hb⟩; dsimp only
        refine hK.out _ _ ?_ (fun hHeld => ?_)
        · exact Two.step ‹Two _ _ _ _› hb
        clear hK K
        try simp only [Act.put, List.setIfInBounds_toArray, List.set_cons_zero, List.set_cons_succ]
        refine wpAnyH_take (i := 44) (v := ?_) rfl (by kernel_rfl) (by kernel_rfl) (by kernel_rfl) (fun _ _ _ h => h) (Or.inl ⟨by kernel_rfl, ?_⟩) (by assumption) ?_
        rotate_left
        · intro W hSw; go_simp; first | done | with_reducible rfl
        try simp only [Act.put, List.setIfInBounds_toArray, List.set_cons_zero, List.set_cons_succ]
        refine wpAnyH_take (i := 45) (v := ?_) rfl (by kernel_rfl) (by kernel_rfl) (by kernel_rfl) (fun _ _ _ h => h) (Or.inl ⟨by kernel_rfl, ?_⟩) (by assumption) ?_
        rotate_left
        · intro W hSw; go_simp; first | done | with_reducible rfl
        try simp only [Act.put, List.setIfInBounds_toArray, List.set_cons_zero, List.set_cons_succ]
        refine wpAnyH_take (i := 46) (v := ?_) rfl (by kernel_rfl) (by kernel_rfl) (by kernel_rfl) (fun _ _ _ h => h) (Or.inl ⟨by kernel_rfl, ?_⟩) (by assumption) ?_
        rotate_left
        · intro W hSw; go_simp; first | done | with_reducible rfl
        try simp only [Act.put, List.setIfInBounds_toArray, List.set_cons_zero, List.set_cons_succ]
        refine wpAnyH_take (i := 47) (v := ?_) rfl (by kernel_rfl) (by kernel_rfl) (by kernel_rfl) (fun _ _ _ h => h) (Or.inl ⟨by kernel_rfl, ?_⟩) (by assumption) ?_
        rotate_left
        · intro W hSw; go_simp; first | done | with_reducible rfl
        try simp only [Act.put, List.setIfInBounds_toArray, List.set_cons_zero, List.set_cons_succ]
        refine wpAnyH_take (i := 48) (v := ?_) rfl (by kernel_rfl) (by kernel_rfl) (by kernel_rfl) (fun _ _ _ h => h) (Or.inl ⟨by kernel_rfl, ?_⟩) (by assumption) ?_
        rotate_left
        · intro W hSw; go_simp; first | done | with_reducible rfl
        try simp only [Act.put, List.setIfInBounds_toArray, List.set_cons_zero, List.set_cons_succ]
        refine wpAnyH_take (i := 50) (v := ?_) rfl (by kernel_rfl) (by kernel_rfl) (by kernel_rfl) (fun _ _ _ h => h) (Or.inl ⟨by kernel_rfl, ?_⟩) (by assumption) ?_
        rotate_left
        · intro W hSw; go_simp; first | done | with_reducible rfl
        try simp only [Act.put, List.setIfInBounds_toArray, List.set_cons_zero, List.set_cons_succ]
        refine wpAnyH_take (i := 51) (v := ?_) rfl (by kernel_rfl) (by kernel_rfl) (by kernel_rfl) (fun _ _ _ h => h) (Or.inl ⟨by kernel_rfl, ?_⟩) (by assumption) ?_
        rotate_left
        · intro W hSw; go_simp; first | done | with_reducible rfl
        try simp only [Act.put, List.setIfInBounds_toArray, List.set_cons_zero, List.set_cons_succ]
        refine wpAnyH_ready (rs := [49]) (by kernel_rfl) (by simp) ?_
        refine AllReadyH.cons rfl (fun K hK => ?_) AllReadyH.nil
        go_simp
        with_reducible refine (CA.out _).mono ?_; rintro e w' ⟨rfl, hb⟩; dsimp only
        refine hK.out _ _ ?_ (fun hHeld => ?_)
        · exact Two.step ‹Two _ _ _ _› hb
        clear hK K
        try simp only [Act.put, List.setIfInBounds_toArray, List.set_cons_zero, List.set_cons_succ]
        refine wpAnyH_ready (rs := [52]) (by kernel_rfl) (by simp) ?_
        refine AllReadyH.cons rfl (fun K hK => ?_) AllReadyH.nil
        go_simp
        with_reducible refine (CA'.out _).mono ?_; rintro e w' ⟨rfl, hb⟩; dsimp only
        refine hK.out _ _ ?_ (fun hHeld => ?_)
        · exact Two.step ‹Two _ _ _ _› hb
        clear hK K
        try simp only [Act.put, List.setIfInBounds_toArray, List.set_cons_zero, List.set_cons_succ]
        refine wpAnyH_take (i := 53) (v := ?_) rfl (by kernel_rfl) (by kernel_rfl) (by kernel_rfl) (fun _ _ _ h => h) (Or.inl ⟨by kernel_rfl, ?_⟩) (by assumption) ?_
        rotate_left
        · intro W hSw; go_simp; first | done | with_reducible rfl
        try simp only [Act.put, List.setIfInBounds_toArray, List.set_cons_zero, List.set_cons_succ]
        refine wpAnyH_take (i := 54) (v := ?_) rfl (by kernel_rfl) (by kernel_rfl) (by kernel_rfl) (fun _ _ _ h => h) (Or.inl ⟨by kernel_rfl, ?_⟩) (by assumption) ?_
        rotate_left
        · intro W hSw; go_simp; first | done | with_reducible rfl
        try simp only [Act.put, List.setIfInBounds_toArray, List.set_cons_zero, List.set_cons_succ]
        refine wpAnyH_take (i := 55) (v := ?_) rfl (by kernel_rfl) (by kernel_rfl) (by kernel_rfl) (fun _ _ _ h => h) (Or.inl ⟨by kernel_rfl, ?_⟩) (by assumption) ?_
        rotate_left
        · intro W hSw; go_simp; first | done | with_reducible rfl
        try simp only [Act.put, List.setIfInBounds_toArray, List.set_cons_zero, List.set_cons_succ]
        refine wpAnyH_take (i := 56) (v := ?_) rfl (by kernel_rfl) (by kernel_rfl) (by kernel_rfl) (fun _ _ _ h => h) (Or.inl ⟨by kernel_rfl, ?_⟩) (by assumption) ?_
        rotate_left
        · intro W hSw; go_simp; first | done | with_reducible rfl
        try simp only [Act.put, List.setIfInBounds_toArray, List.set_cons_zero, List.set_cons_succ]
        refine wpAnyH_take (i := 57) (v := ?_) rfl (by kernel_rfl) (by kernel_rfl) (by kernel_rfl) (fun _ _ _ h => h) (Or.inl ⟨by kernel_rfl, ?_⟩) (by assumption) ?_
        rotate_left
        · intro W hSw; go_simp; first | done | with_reducible rfl
        try simp only [Act.put, List.setIfInBounds_toArray, List.set_cons_zero, List.set_cons_succ]
        refine wpAnyH_take (i := 59) (v := ?_) rfl (by kernel_rfl) (by kernel_rfl) (by kernel_rfl) (fun _ _ _ h => h) (Or.inl ⟨by kernel_rfl, ?_⟩) (by assumption) ?_
        rotate_left
        · intro W hSw; go_simp; first | done | with_reducible rfl
        try simp only [Act.put, List.setIfInBounds_toArray, List.set_cons_zero, List.set_cons_succ]
        refine wpAnyH_ready (rs := [58]) (by kernel_rfl) (by simp) ?_
        refine AllReadyH.cons rfl (fun K hK => ?_) AllReadyH.nil
        go_simp
        with_reducible refine (CA.out _).mono ?_; rintro e w' ⟨rfl, hb⟩; dsimp only
        refine hK.out _ _ ?_ (fun hHeld => ?_)
        · exact Two.step ‹Two _ _ _ _› hb
        clear hK K
        try simp only [Act.put, List.setIfInBounds_toArray, List.set_cons_zero, List.set_cons_succ]
        refine wpAnyH_ready (rs := [60]) (by kernel_rfl) (by simp) ?_
        refine AllReadyH.cons rfl (fun K hK => ?_) AllReadyH.nil
        go_simp
        with_reducible refine (CWA.out _).mono ?_; rintro e w' ⟨rfl, hb⟩; dsimp only
        refine hK.out _ _ ?_ (fun hHeld => ?_)
        · exact Two.step ‹Two _ _ _ _› hb
        clear hK K
        try simp only [Act.put, List.setIfInBounds_toArray, List.set_cons_zero, List.set_cons_succ]
        refine wpAnyH_take (i := 61) (v := ?_) rfl (by kernel_rfl) (by kernel_rfl) (by kernel_rfl) (fun _ _ _ h => h) (Or.inl ⟨by kernel_rfl, ?_⟩) (by assumption) ?_
        rotate_left
        · intro W hSw; go_simp; first | done | with_reducible rfl
        try simp only [Act.put, List.setIfInBounds_toArray, List.set_cons_zero, List.set_cons_succ]
        refine wpAnyH_take (i := 62) (v := ?_) rfl (by kernel_rfl) (by kernel_rfl) (by kernel_rfl) (fun _ _ _ h => h) (Or.inl ⟨by kernel_rfl, ?_⟩) (by assumption) ?_
        rotate_left
        · intro W hSw; go_simp; first | done | with_reducible rfl
        try simp only [Act.put, List.setIfInBounds_toArray, List.set_cons_zero, List.set_cons_succ]
        refine wpAnyH_take (i := 63) (v := ?_) rfl (by kernel_rfl) (by kernel_rfl) (by kernel_rfl) (fun _ _ _ h => h) (Or.inl ⟨by kernel_rfl, ?_⟩) (by assumption) ?_
        rotate_left
        · intro W hSw; go_simp; first | done | with_reducible rfl
        try simp only [Act.put, List.setIfInBounds_toArray, List.set_cons_zero, List.set_cons_succ]
        refine wpAnyH_take (i := 64) (v := ?_) rfl (by kernel_rfl) (by kernel_rfl) (by kernel_rfl) (fun _ _ _ h => h) (Or.inl ⟨by kernel_rfl, ?_⟩) (by assumption) ?_
        rotate_left
        · intro W hSw; go_simp; first | done | with_reducible rfl
        try simp only [Act.put, List.setIfInBounds_toArray, List.set_cons_zero, List.set_cons_succ]
        refine wpAnyH_take (i := 65) (v := ?_) rfl (by kernel_rfl) (by kernel_rfl) (by kernel_rfl) (fun _ _ _ h => h) (Or.inl ⟨by kernel_rfl, ?_⟩) (by assumption) ?_
        rotate_left
        · intro W hSw; go_simp; first | done | with_reducible rfl
        try simp only [Act.put, List.setIfInBounds_toArray, List.set_cons_zero, List.set_cons_succ]
        refine wpAnyH_ready (rs := [66]) (by kernel_rfl) (by simp) ?_
        refine AllReadyH.cons rfl (fun K hK => ?_) AllReadyH.nil
        go_simp
        with_reducible refine (CO.out _).mono ?_; rintro e w' ⟨rfl, hb⟩; dsimp only
        refine hK.out _ _ ?_ (fun hHeld => ?_)
        · exact Two.step ‹Two _ _ _ _› hb
        clear hK K
        try simp only [Act.put, List.setIfInBounds_toArray, List.set_cons_zero, List.set_cons_succ]
        refine wpAnyH_ready (rs := [67]) (by kernel_rfl) (by simp) ?_
        refine AllReadyH.cons rfl (fun K hK => ?_) AllReadyH.nil
        go_simp
        with_reducible refine (CWO.out _).mono ?_; rintro e w' ⟨rfl, hb⟩; dsimp only
        refine hK.out _ _ ?_ (fun hHeld => ?_)
        · exact Two.step ‹Two _ _ _ _› hb
        clear hK K
        try simp only [Act.put, List.setIfInBounds_toArray, List.set_cons_zero, List.set_cons_succ]
        refine wpAnyH_take (i := 68) (v := ?_) rfl (by kernel_rfl) (by kernel_rfl) (by kernel_rfl) (fun _ _ _ h => h) (Or.inl ⟨by kernel_rfl, ?_⟩) (by assumption) ?_
        rotate_left
        · intro W hSw; go_simp; first | done | with_reducible rfl
        try simp only [Act.put, List.setIfInBounds_toArray, List.set_cons_zero, List.set_cons_succ]
        refine wpAnyH_take (i := 69) (v := ?_) rfl (by kernel_rfl) (by kernel_rfl) (by kernel_rfl) (fun _ _ _ h => h) (Or.inl ⟨by kernel_rfl, ?_⟩) (by assumption) ?_
        rotate_left
        · intro W hSw; go_simp; first | done | with_reducible rfl
        try simp only [Act.put, List.setIfInBounds_toArray, List.set_cons_zero, List.set_cons_succ]
        refine wpAnyH_done (by kernel_rfl) ?_ _
        simp only [Act.put, List.setIfInBounds_toArray, List.set_cons_zero, List.set_cons_succ, List.getElem_toArray, List.getElem_cons_zero, List.getElem_cons_succ]
        go_wp2
        have hT := hHeld
        go_ret
        exact ⟨rfl, below_step HB.out hT.2.2⟩
      · simp only [Bool.false_or, Bool.true_or, Bool.false_and, Bool.true_and] at COh CAh
        go_wp2_with (fail)
        refine wp_region_held_drew (S := fun W => Two fx fy v W) (by kernel_rfl) KK.drew (fun hHeld => ?_)
        clear KK
        refine wpAnyH_take (i := 0) (v := ?_) rfl (by kernel_rfl) (by kernel_rfl) (by kernel_rfl) (fun _ _ _ h => h) (Or.inl ⟨by kernel_rfl, ?_⟩) (by assumption) ?_
        rotate_left
        · intro W hSw; go_simp; first | done | with_reducible rfl
        try simp only [Act.put, List.setIfInBounds_toArray, List.set_cons_zero, List.set_cons_succ]
        refine wpAnyH_take (i := 1) (v := ?_) rfl (by kernel_rfl) (by kernel_rfl) (by kernel_rfl) (fun _ _ _ h => h) (Or.inl ⟨by kernel_rfl, ?_⟩) (by assumption) ?_
        rotate_left
        · intro W hSw; go_simp; first | done | with_reducible rfl
        try simp only [Act.put, List.setIfInBounds_toArray, List.set_cons_zero, List.set_cons_succ]
        refine wpAnyH_take (i := 3) (v := ?_) rfl (by kernel_rfl) (by kernel_rfl) (by kernel_rfl) (fun _ _ _ h => h) (Or.inl ⟨by kernel_rfl, ?_⟩) (by assumption) ?_
        rotate_left
        · intro W hSw; go_simp; first | done | with_reducible rfl
        try simp only [Act.put, List.setIfInBounds_toArray, List.set_cons_zero, List.set_cons_succ]
        refine wpAnyH_take (i := 5) (v := ?_) rfl (by kernel_rfl) (by kernel_rfl) (by kernel_rfl) (fun _ _ _ h => h) (Or.inl ⟨by kernel_rfl, ?_⟩) (by assumption) ?_
        rotate_left
        · intro W hSw; go_simp; first | done | with_reducible rfl
        try simp only [Act.put, List.setIfInBounds_toArray, List.set_cons_zero, List.set_cons_succ]
        refine wpAnyH_take (i := 6) (v := ?_) rfl (by kernel_rfl) (by kernel_rfl) (by kernel_rfl) (fun _ _ _ h => h) (Or.inl ⟨by kernel_rfl, ?_⟩) (by assumption) ?_
        rotate_left
        · intro W hSw; go_simp; first | done | with_reducible rfl
        try simp only [Act.put, List.setIfInBounds_toArray, List.set_cons_zero, List.set_cons_succ]
        refine wpAnyH_ready (rs := [2]) (by kernel_rfl) (by simp) ?_
        refine AllReadyH.cons rfl (fun K hK => ?_) AllReadyH.nil
        go_simp
        with_reducible refine (CO.out _).mono ?_; rintro e w' ⟨rfl, hb⟩; dsimp only
        refine hK.out _ _ ?_ (fun hHeld => ?_)
        · exact Two.step ‹Two _ _ _ _› hb
        clear hK K
        try simp only [Act.put, List.setIfInBounds_toArray, List.set_cons_zero, List.set_cons_succ]
        refine wpAnyH_ready (rs := [4]) (by kernel_rfl) (by simp) ?_
        refine AllReadyH.cons rfl (fun K hK => ?_) AllReadyH.nil
        go_simp
        with_reducible refine (COh.out _).mono ?_; rintro e w' ⟨rfl, hb⟩; dsimp only
        refine hK.out _ _ ?_ (fun hHeld => ?_)
        · exact Two.step ‹Two _ _ _ _› hb
        clear hK K
        try simp only [Act.put, List.setIfInBounds_toArray, List.set_cons_zero, List.set_cons_succ]
        refine wpAnyH_ready (rs := [7]) (by kernel_rfl) (by simp) ?_
        refine AllReadyH.cons rfl (fun K hK => ?_) AllReadyH.nil
        go_simp
        with_reducible refine (Cx.out _).mono ?_; rintro e w' ⟨rfl, hb⟩; dsimp only
        refine hK.out _ _ ?_ (fun hHeld => ?_)
        · exact Two.step ‹Two _ _ _ _› hb
        clear hK K
        try simp only [Act.put, List.setIfInBounds_toArray, List.set_cons_zero, List.set_cons_succ]
        refine wpAnyH_take (i := 8) (v := ?_) rfl (by kernel_rfl) (by kernel_rfl) (by kernel_rfl) (fun _ _ _ h => h) (Or.inl ⟨by kernel_rfl, ?_⟩) (by assumption) ?_
        rotate_left
        · intro W hSw; go_simp; first | done | with_reducible rfl
        try simp only [Act.put, List.setIfInBounds_toArray, List.set_cons_zero, List.set_cons_succ]
        refine wpAnyH_take (i := 9) (v := undef) rfl (by kernel_rfl) (by kernel_rfl) (by kernel_rfl) (fun _ _ _ h => h) (Or.inr ⟨by kernel_rfl, rfl⟩) (by assumption) ?_
        try simp only [Act.put, List.setIfInBounds_toArray, List.set_cons_zero, List.set_cons_succ]
        refine wpAnyH_take (i := 10) (v := undef) rfl (by kernel_rfl) (by kernel_rfl) (by kernel_rfl) (fun _ _ _ h => h) (Or.inr ⟨by kernel_rfl, rfl⟩) (by assumption) ?_
        try simp only [Act.put, List.setIfInBounds_toArray, List.set_cons_zero, List.set_cons_succ]
        refine wpAnyH_take (i := 11) (v := undef) rfl (by kernel_rfl) (by kernel_rfl) (by kernel_rfl) (fun _ _ _ h => h) (Or.inr ⟨by kernel_rfl, rfl⟩) (by assumption) ?_
        try simp only [Act.put, List.setIfInBounds_toArray, List.set_cons_zero, List.set_cons_succ]
        refine wpAnyH_take (i := 12) (v := ?_) rfl (by kernel_rfl) (by kernel_rfl) (by kernel_rfl) (fun _ _ _ h => h) (Or.inl ⟨by kernel_rfl, ?_⟩) (by assumption) ?_
        rotate_left
        · intro W hSw; go_simp; first | done | with_reducible rfl
        try simp only [Act.put, List.setIfInBounds_toArray, List.set_cons_zero, List.set_cons_succ]
        refine wpAnyH_take (i := 13) (v := ?_) rfl (by kernel_rfl) (by kernel_rfl) (by kernel_rfl) (fun _ _ _ h => h) (Or.inl ⟨by kernel_rfl, ?_⟩) (by assumption) ?_
        rotate_left
        · intro W hSw; go_simp; first | done | with_reducible rfl
        try simp only [Act.put, List.setIfInBounds_toArray, List.set_cons_zero, List.set_cons_succ]
        refine wpAnyH_take (i := 14) (v := ?_) rfl (by kernel_rfl) (by kernel_rfl) (by kernel_rfl) (fun _ _ _ h => h) (Or.inl ⟨by kernel_rfl, ?_⟩) (by assumption) ?_
        rotate_left
        · intro W hSw; go_simp; first | done | with_reducible rfl
        try simp only [Act.put, List.setIfInBounds_toArray, List.set_cons_zero, List.set_cons_succ]
        refine wpAnyH_take (i := 15) (v := ?_) rfl (by kernel_rfl) (by kernel_rfl) (by kernel_rfl) (fun _ _ _ h => h) (Or.inl ⟨by kernel_rfl, ?_⟩) (by assumption) ?_
        rotate_left
        · intro W hSw; go_simp; first | done | with_reducible rfl
        try simp only [Act.put, List.setIfInBounds_toArray, List.set_cons_zero, List.set_cons_succ]
        refine wpAnyH_take (i := 16) (v := ?_) rfl (by kernel_rfl) (by kernel_rfl) (by kernel_rfl) (fun _ _ _ h => h) (Or.inl ⟨by kernel_rfl, ?_⟩) (by assumption) ?_
        rotate_left
        · intro W hSw; go_simp; first | done | with_reducible rfl
        try simp only [Act.put, List.setIfInBounds_toArray, List.set_cons_zero, List.set_cons_succ]
        refine wpAnyH_take (i := 18) (v := ?_) rfl (by kernel_rfl) (by kernel_rfl) (by kernel_rfl) (fun _ _ _ h => h) (Or.inl ⟨by kernel_rfl, ?_⟩) (by assumption) ?_
        rotate_left
        · intro W hSw; go_simp; first | done | with_reducible rfl
        try simp only [Act.put, List.setIfInBounds_toArray, List.set_cons_zero, List.set_cons_succ]
        refine wpAnyH_take (i := 20) (v := ?_) rfl (by kernel_rfl) (by kernel_rfl) (by kernel_rfl) (fun _ _ _ h => h) (Or.inl ⟨by kernel_rfl, ?_⟩) (by assumption) ?_
        rotate_left
        · intro W hSw; go_simp; first | done | with_reducible rfl
        try simp only [Act.put, List.setIfInBounds_toArray, List.set_cons_zero, List.set_cons_succ]
        refine wpAnyH_take (i := 21) (v := ?_) rfl (by kernel_rfl) (by kernel_rfl) (by kernel_rfl) (fun _ _ _ h => h) (Or.inl ⟨by kernel_rfl, ?_⟩) (by assumption) ?_
        rotate_left
        · intro W hSw; go_simp; first | done | with_reducible rfl
        try simp only [Act.put, List.setIfInBounds_toArray, List.set_cons_zero, List.set_cons_succ]
        refine wpAnyH_ready (rs := [17]) (by kernel_rfl) (by simp) ?_
        refine AllReadyH.cons rfl (fun K hK => ?_) AllReadyH.nil
        go_simp
        with_reducible refine (CA.out _).mono ?_; rintro e w' ⟨rfl, hb⟩; dsimp only
        refine hK.out _ _ ?_ (fun hHeld => ?_)
        · exact Two.step ‹Two _ _ _ _› hb
        clear hK K
        try simp only [Act.put, List.setIfInBounds_toArray, List.set_cons_zero, List.set_cons_succ]
        refine wpAnyH_ready (rs := [19]) (by kernel_rfl) (by simp) ?_
        refine AllReadyH.cons rfl (fun K hK => ?_) AllReadyH.nil
        go_simp
        with_reducible refine (CAh.out _).mono ?_; rintro e w' ⟨rfl, hb⟩; dsimp only
        refine hK.out _ _ ?_ (fun hHeld => ?_)
        · exact Two.step ‹Two _ _ _ _› hb
        clear hK K
        try simp only [Act.put, List.setIfInBounds_toArray, List.set_cons_zero, List.set_cons_succ]
        refine wpAnyH_ready (rs := [22]) (by kernel_rfl) (by simp) ?_
        refine AllReadyH.cons rfl (fun K hK => ?_) AllReadyH.nil
        go_simp
        with_reducible refine (Cx.out _).mono ?_; rintro e w' ⟨rfl, hb⟩; dsimp only
        refine hK.out _ _ ?_ (fun hHeld => ?_)
        · exact Two.step ‹Two _ _ _ _› hb
        clear hK K
        try simp only [Act.put, List.setIfInBounds_toArray, List.set_cons_zero, List.set_cons_succ]
        refine wpAnyH_take (i := 23) (v := ?_) rfl (by kernel_rfl) (by kernel_rfl) (by kernel_rfl) (fun _ _ _ h => h) (Or.inl ⟨by kernel_rfl, ?_⟩) (by assumption) ?_
        rotate_left
        · intro W hSw; go_simp; first | done | with_reducible rfl
        try simp only [Act.put, List.setIfInBounds_toArray, List.set_cons_zero, List.set_cons_succ]
        refine wpAnyH_take (i := 24) (v := ?_) rfl (by kernel_rfl) (by kernel_rfl) (by kernel_rfl) (fun _ _ _ h => h) (Or.inl ⟨by kernel_rfl, ?_⟩) (by assumption) ?_
        rotate_left
        · intro W hSw; go_simp; first | done | with_reducible rfl
        try simp only [Act.put, List.setIfInBounds_toArray, List.set_cons_zero, List.set_cons_succ]
        refine wpAnyH_take (i := 25) (v := ?_) rfl (by kernel_rfl) (by kernel_rfl) (by kernel_rfl) (fun _ _ _ h => h) (Or.inl ⟨by kernel_rfl, ?_⟩) (by assumption) ?_
        rotate_left
        · intro W hSw; go_simp; first | done | with_reducible rfl
        try simp only [Act.put, List.setIfInBounds_toArray, List.set_cons_zero, List.set_cons_succ]
        refine wpAnyH_ready (rs := [26]) (by kernel_rfl) (by simp) ?_
        refine AllReadyH.cons rfl (fun K hK => ?_) AllReadyH.nil
        go_simp
        with_reducible refine (Cy.out _).mono ?_; rintro e w' ⟨rfl, hb⟩; dsimp only
        refine hK.out _ _ ?_ (fun hHeld => ?_)
        · exact Two.step ‹Two _ _ _ _› hb
        clear hK K
        try simp only [Act.put, List.setIfInBounds_toArray, List.set_cons_zero, List.set_cons_succ]
        refine wpAnyH_take (i := 27) (v := ?_) rfl (by kernel_rfl) (by kernel_rfl) (by kernel_rfl) (fun _ _ _ h => h) (Or.inl ⟨by kernel_rfl, ?_⟩) (by assumption) ?_
        rotate_left
        · intro W hSw; go_simp; first | done | with_reducible rfl
        try simp only [Act.put, List.setIfInBounds_toArray, List.set_cons_zero, List.set_cons_succ]
        refine wpAnyH_take (i := 28) (v := ?_) rfl (by kernel_rfl) (by kernel_rfl) (by kernel_rfl) (fun _ _ _ h => h) (Or.inl ⟨by kernel_rfl, ?_⟩) (by assumption) ?_
        rotate_left
        · intro W hSw; go_simp; first | done | with_reducible rfl
        try simp only [Act.put, List.setIfInBounds_toArray, List.set_cons_zero, List.set_cons_succ]
        refine wpAnyH_take (i := 29) (v := ?_) rfl (by kernel_rfl) (by kernel_rfl) (by kernel_rfl) (fun _ _ _ h => h) (Or.inl ⟨by kernel_rfl, ?_⟩) (by assumption) ?_
        rotate_left
        · intro W hSw; go_simp; first | done | with_reducible rfl
        try simp only [Act.put, List.setIfInBounds_toArray, List.set_cons_zero, List.set_cons_succ]
        refine wpAnyH_take (i := 30) (v := ?_) rfl (by kernel_rfl) (by kernel_rfl) (by kernel_rfl) (fun _ _ _ h => h) (Or.inl ⟨by kernel_rfl, ?_⟩) (by assumption) ?_
        rotate_left
        · intro W hSw; go_simp; first | done | with_reducible rfl
        try simp only [Act.put, List.setIfInBounds_toArray, List.set_cons_zero, List.set_cons_succ]
        refine wpAnyH_take (i := 31) (v := ?_) rfl (by kernel_rfl) (by kernel_rfl) (by kernel_rfl) (fun _ _ _ h => h) (Or.inl ⟨by kernel_rfl, ?_⟩) (by assumption) ?_
        rotate_left
        · intro W hSw; go_simp; first | done | with_reducible rfl
        try simp only [Act.put, List.setIfInBounds_toArray, List.set_cons_zero, List.set_cons_succ]
        refine wpAnyH_take (i := 32) (v := ?_) rfl (by kernel_rfl) (by kernel_rfl) (by kernel_rfl) (fun _ _ _ h => h) (Or.inl ⟨by kernel_rfl, ?_⟩) (by assumption) ?_
        rotate_left
        · intro W hSw; go_simp; first | done | with_reducible rfl
        try simp only [Act.put, List.setIfInBounds_toArray, List.set_cons_zero, List.set_cons_succ]
        refine wpAnyH_take (i := 34) (v := ?_) rfl (by kernel_rfl) (by kernel_rfl) (by kernel_rfl) (fun _ _ _ h => h) (Or.inl ⟨by kernel_rfl, ?_⟩) (by assumption) ?_
        rotate_left
        · intro W hSw; go_simp; first | done | with_reducible rfl
        try simp only [Act.put, List.setIfInBounds_toArray, List.set_cons_zero, List.set_cons_succ]
        refine wpAnyH_ready (rs := [33]) (by kernel_rfl) (by simp) ?_
        refine AllReadyH.cons rfl (fun K hK => ?_) AllReadyH.nil
        go_simp
        with_reducible refine (CW.out _).mono ?_; rintro e w' ⟨rfl, hb⟩; dsimp only
        refine hK.out _ _ ?_ (fun hHeld => ?_)
        · exact Two.step ‹Two _ _ _ _› hb
        clear hK K
        try simp only [Act.put, List.setIfInBounds_toArray, List.set_cons_zero, List.set_cons_succ]
        refine wpAnyH_take (i := 35) (v := ?_) rfl (by kernel_rfl) (by kernel_rfl) (by kernel_rfl) (fun _ _ _ h => h) (Or.inl ⟨by kernel_rfl, ?_⟩) (by assumption) ?_
        rotate_left
        · intro W hSw; go_simp; first | done | with_reducible rfl
        try simp only [Act.put, List.setIfInBounds_toArray, List.set_cons_zero, List.set_cons_succ]
        refine wpAnyH_take (i := 36) (v := ?_) rfl (by kernel_rfl) (by kernel_rfl) (by kernel_rfl) (fun _ _ _ h => h) (Or.inl ⟨by kernel_rfl, ?_⟩) (by assumption) ?_
        rotate_left
        · intro W hSw; go_simp; first | done | with_reducible rfl
        try simp only [Act.put, List.setIfInBounds_toArray, List.set_cons_zero, List.set_cons_succ]
        refine wpAnyH_take (i := 37) (v := ?_) rfl (by kernel_rfl) (by kernel_rfl) (by kernel_rfl) (fun _ _ _ h => h) (Or.inl ⟨by kernel_rfl, ?_⟩) (by assumption) ?_
        rotate_left
        · intro W hSw; go_simp; first | done | with_reducible rfl
        try simp only [Act.put, List.setIfInBounds_toArray, List.set_cons_zero, List.set_cons_succ]
        refine wpAnyH_take (i := 38) (v := ?_) rfl (by kernel_rfl) (by kernel_rfl) (by kernel_rfl) (fun _ _ _ h => h) (Or.inl ⟨by kernel_rfl, ?_⟩) (by assumption) ?_
        rotate_left
        · intro W hSw; go_simp; first | done | with_reducible rfl
        try simp only [Act.put, List.setIfInBounds_toArray, List.set_cons_zero, List.set_cons_succ]
        refine wpAnyH_take (i := 39) (v := ?_) rfl (by kernel_rfl) (by kernel_rfl) (by kernel_rfl) (fun _ _ _ h => h) (Or.inl ⟨by kernel_rfl, ?_⟩) (by assumption) ?_
        rotate_left
        · intro W hSw; go_simp; first | done | with_reducible rfl
        try simp only [Act.put, List.setIfInBounds_toArray, List.set_cons_zero, List.set_cons_succ]
        refine wpAnyH_take (i := 41) (v := ?_) rfl (by kernel_rfl) (by kernel_rfl) (by kernel_rfl) (fun _ _ _ h => h) (Or.inl ⟨by kernel_rfl, ?_⟩) (by assumption) ?_
        rotate_left
        · intro W hSw; go_simp; first | done | with_reducible rfl
        try simp only [Act.put, List.setIfInBounds_toArray, List.set_cons_zero, List.set_cons_succ]
        refine wpAnyH_take (i := 42) (v := ?_) rfl (by kernel_rfl) (by kernel_rfl) (by kernel_rfl) (fun _ _ _ h => h) (Or.inl ⟨by kernel_rfl, ?_⟩) (by assumption) ?_
        rotate_left
        · intro W hSw; go_simp; first | done | with_reducible rfl
        try simp only [Act.put, List.setIfInBounds_toArray, List.set_cons_zero, List.set_cons_succ]
        refine wpAnyH_ready (rs := [40]) (by kernel_rfl) (by simp) ?_
        refine AllReadyH.cons rfl (fun K hK => ?_) AllReadyH.nil
        go_simp
        with_reducible refine (CO.out _).mono ?_; rintro e w' ⟨rfl, hb⟩; dsimp only
        refine hK.out _ _ ?_ (fun hHeld => ?_)
        · exact Two.step ‹Two _ _ _ _› hb
        clear hK K
        try simp only [Act.put, List.setIfInBounds_toArray, List.set_cons_zero, List.set_cons_succ]
        refine wpAnyH_ready (rs := [43]) (by kernel_rfl) (by simp) ?_
        refine AllReadyH.cons rfl (fun K hK => ?_) AllReadyH.nil
        go_simp
        with_reducible refine (CO'.out _).mono ?_; rintro e w' ⟨rfl, hb⟩; dsimp only
        refine hK.out _ _ ?_ (fun hHeld => ?_)
        · exact Two.step ‹Two _ _ _ _› hb
        clear hK K
        try simp only [Act.put, List.setIfInBounds_toArray, List.set_cons_zero, List.set_cons_succ]
        refine wpAnyH_take (i := 44) (v := ?_) rfl (by kernel_rfl) (by kernel_rfl) (by kernel_rfl) (fun _ _ _ h => h) (Or.inl ⟨by kernel_rfl, ?_⟩) (by assumption) ?_
        rotate_left
        · intro W hSw; go_simp; first | done | with_reducible rfl
        try simp only [Act.put, List.setIfInBounds_toArray, List.set_cons_zero, List.set_cons_succ]
        refine wpAnyH_take (i := 45) (v := ?_) rfl (by kernel_rfl) (by kernel_rfl) (by kernel_rfl) (fun _ _ _ h => h) (Or.inl ⟨by kernel_rfl, ?_⟩) (by assumption) ?_
        rotate_left
        · intro W hSw; go_simp; first | done | with_reducible rfl
        try simp only [Act.put, List.setIfInBounds_toArray, List.set_cons_zero, List.set_cons_succ]
        refine wpAnyH_take (i := 46) (v := ?_) rfl (by kernel_rfl) (by kernel_rfl) (by kernel_rfl) (fun _ _ _ h => h) (Or.inl ⟨by kernel_rfl, ?_⟩) (by assumption) ?_
        rotate_left
        · intro W hSw; go_simp; first | done | with_reducible rfl
        try simp only [Act.put, List.setIfInBounds_toArray, List.set_cons_zero, List.set_cons_succ]
        refine wpAnyH_take (i := 47) (v := ?_) rfl (by kernel_rfl) (by kernel_rfl) (by kernel_rfl) (fun _ _ _ h => h) (Or.inl ⟨by kernel_rfl, ?_⟩) (by assumption) ?_
        rotate_left
        · intro W hSw; go_simp; first | done | with_reducible rfl
        try simp only [Act.put, List.setIfInBounds_toArray, List.set_cons_zero, List.set_cons_succ]
        refine wpAnyH_take (i := 48) (v := ?_) rfl (by kernel_rfl) (by kernel_rfl) (by kernel_rfl) (fun _ _ _ h => h) (Or.inl ⟨by kernel_rfl, ?_⟩) (by assumption) ?_
        rotate_left
        · intro W hSw; go_simp; first | done | with_reducible rfl
        try simp only [Act.put, List.setIfInBounds_toArray, List.set_cons_zero, List.set_cons_succ]
        refine wpAnyH_take (i := 50) (v := ?_) rfl (by kernel_rfl) (by kernel_rfl) (by kernel_rfl) (fun _ _ _ h => h) (Or.inl ⟨by kernel_rfl, ?_⟩) (by assumption) ?_
        rotate_left
        · intro W hSw; go_simp; first | done | with_reducible rfl
        try simp only [Act.put, List.setIfInBounds_toArray, List.set_cons_zero, List.set_cons_succ]
        refine wpAnyH_take (i := 51) (v := ?_) rfl (by kernel_rfl) (by kernel_rfl) (by kernel_rfl) (fun _ _ _ h => h) (Or.inl ⟨by kernel_rfl, ?_⟩) (by assumption) ?_
        rotate_left
        · intro W hSw; go_simp; first | done | with_reducible rfl
        try simp only [Act.put, List.setIfInBounds_toArray, List.set_cons_zero, List.set_cons_succ]
        refine wpAnyH_ready (rs := [49]) (by kernel_rfl) (by simp) ?_
        refine AllReadyH.cons rfl (fun K hK => ?_) AllReadyH.nil
        go_simp
        with_reducible refine (CA.out _).mono ?_; rintro e w' ⟨rfl, hb⟩; dsimp only
        refine hK.out _ _ ?_ (fun hHeld => ?_)
        · exact Two.step ‹Two _ _ _ _› hb
        clear hK K
        try simp only [Act.put, List.setIfInBounds_toArray, List.set_cons_zero, List.set_cons_succ]
        refine wpAnyH_ready (rs := [52]) (by kernel_rfl) (by simp) ?_
        refine AllReadyH.cons rfl (fun K hK => ?_) AllReadyH.nil
        go_simp
        with_reducible refine (CA'.out _).mono ?_; rintro e w' ⟨rfl, hb⟩; dsimp only
        refine hK.out _ _ ?_ (fun hHeld => ?_)
        · exact Two.step ‹Two _ _ _ _› hb
        clear hK K
        try simp only [Act.put, List.setIfInBounds_toArray, List.set_cons_zero, List.set_cons_succ]
        refine wpAnyH_take (i := 53) (v := ?_) rfl (by kernel_rfl) (by kernel_rfl) (by kernel_rfl) (fun _ _ _ h => h) (Or.inl ⟨by kernel_rfl, ?_⟩) (by assumption) ?_
        rotate_left
        · intro W hSw; go_simp; first | done | with_reducible rfl
        try simp only [Act.put, List.setIfInBounds_toArray, List.set_cons_zero, List.set_cons_succ]
        refine wpAnyH_take (i := 54) (v := ?_) rfl (by kernel_rfl) (by kernel_rfl) (by kernel_rfl) (fun _ _ _ h => h) (Or.inl ⟨by kernel_rfl, ?_⟩) (by assumption) ?_
        rotate_left
        · intro W hSw; go_simp; first | done | with_reducible rfl
        try simp only [Act.put, List.setIfInBounds_toArray, List.set_cons_zero, List.set_cons_succ]
        refine wpAnyH_take (i := 55) (v := ?_) rfl (by kernel_rfl) (by kernel_rfl) (by kernel_rfl) (fun _ _ _ h => h) (Or.inl ⟨by kernel_rfl, ?_⟩) (by assumption) ?_
        rotate_left
        · intro W hSw; go_simp; first | done | with_reducible rfl
        try simp only [Act.put, List.setIfInBounds_toArray, List.set_cons_zero, List.set_cons_succ]
        refine wpAnyH_take (i := 56) (v := ?_) rfl (by kernel_rfl) (by kernel_rfl) (by kernel_rfl) (fun _ _ _ h => h) (Or.inl ⟨by kernel_rfl, ?_⟩) (by assumption) ?_
        rotate_left
        · intro W hSw; go_simp; first | done | with_reducible rfl
        try simp only [Act.put, List.setIfInBounds_toArray, List.set_cons_zero, List.set_cons_succ]
        refine wpAnyH_take (i := 57) (v := ?_) rfl (by kernel_rfl) (by kernel_rfl) (by kernel_rfl) (fun _ _ _ h => h) (Or.inl ⟨by kernel_rfl, ?_⟩) (by assumption) ?_
        rotate_left
        · intro W hSw; go_simp; first | done | with_reducible rfl
        try simp only [Act.put, List.setIfInBounds_toArray, List.set_cons_zero, List.set_cons_succ]
        refine wpAnyH_take (i := 59) (v := ?_) rfl (by kernel_rfl) (by kernel_rfl) (by kernel_rfl) (fun _ _ _ h => h) (Or.inl ⟨by kernel_rfl, ?_⟩) (by assumption) ?_
        rotate_left
        · intro W hSw; go_simp; first | done | with_reducible rfl
        try simp only [Act.put, List.setIfInBounds_toArray, List.set_cons_zero, List.set_cons_succ]
        refine wpAnyH_ready (rs := [58]) (by kernel_rfl) (by simp) ?_
        refine AllReadyH.cons rfl (fun K hK => ?_) AllReadyH.nil
        go_simp
        with_reducible refine (CA.out _).mono ?_; rintro e w' ⟨rfl, hb⟩; dsimp only
        refine hK.out _ _ ?_ (fun hHeld => ?_)
        · exact Two.step ‹Two _ _ _ _› hb
        clear hK K
        try simp only [Act.put, List.setIfInBounds_toArray, List.set_cons_zero, List.set_cons_succ]
        refine wpAnyH_ready (rs := [60]) (by kernel_rfl) (by simp) ?_
        refine AllReadyH.cons rfl (fun K hK => ?_) AllReadyH.nil
        go_simp
        with_reducible refine (CWA.out _).mono ?_; rintro e w' ⟨rfl, hb⟩; dsimp only
        refine hK.out _ _ ?_ (fun hHeld => ?_)
        · exact Two.step ‹Two _ _ _ _› hb
        clear hK K
        try simp only [Act.put, List.setIfInBounds_toArray, List.set_cons_zero, List.set_cons_succ]
        refine wpAnyH_take (i := 61) (v := ?_) rfl (by kernel_rfl) (by kernel_rfl) (by kernel_rfl) (fun _ _ _ h => h) (Or.inl ⟨by kernel_rfl, ?_⟩) (by assumption) ?_
        rotate_left
        · intro W hSw; go_simp; first | done | with_reducible rfl
        try simp only [Act.put, List.setIfInBounds_toArray, List.set_cons_zero, List.set_cons_succ]
        refine wpAnyH_take (i := 62) (v := ?_) rfl (by kernel_rfl) (by kernel_rfl) (by kernel_rfl) (fun _ _ _ h => h) (Or.inl ⟨by kernel_rfl, ?_⟩) (by assumption) ?_
        rotate_left
        · intro W hSw; go_simp; first | done | with_reducible rfl
        try simp only [Act.put, List.setIfInBounds_toArray, List.set_cons_zero, List.set_cons_succ]
        refine wpAnyH_take (i := 63) (v := ?_) rfl (by kernel_rfl) (by kernel_rfl) (by kernel_rfl) (fun _ _ _ h => h) (Or.inl ⟨by kernel_rfl, ?_⟩) (by assumption) ?_
        rotate_left
        · intro W hSw; go_simp; first | done | with_reducible rfl
        try simp only [Act.put, List.setIfInBounds_toArray, List.set_cons_zero, List.set_cons_succ]
        refine wpAnyH_take (i := 64) (v := ?_) rfl (by kernel_rfl) (by kernel_rfl) (by kernel_rfl) (fun _ _ _ h => h) (Or.inl ⟨by kernel_rfl, ?_⟩) (by assumption) ?_
        rotate_left
        · intro W hSw; go_simp; first | done | with_reducible rfl
        try simp only [Act.put, List.setIfInBounds_toArray, List.set_cons_zero, List.set_cons_succ]
        refine wpAnyH_take (i := 65) (v := ?_) rfl (by kernel_rfl) (by kernel_rfl) (by kernel_rfl) (fun _ _ _ h => h) (Or.inl ⟨by kernel_rfl, ?_⟩) (by assumption) ?_
        rotate_left
        · intro W hSw; go_simp; first | done | with_reducible rfl
        try simp only [Act.put, List.setIfInBounds_toArray, List.set_cons_zero, List.set_cons_succ]
        refine wpAnyH_ready (rs := [66]) (by kernel_rfl) (by simp) ?_
        refine AllReadyH.cons rfl (fun K hK => ?_) AllReadyH.nil
        go_simp
        with_reducible refine (CO.out _).mono ?_; rintro e w' ⟨rfl, hb⟩; dsimp only
        refine hK.out _ _ ?_ (fun hHeld => ?_)
        · exact Two.step ‹Two _ _ _ _› hb
        clear hK K
        try simp only [Act.put, List.setIfInBounds_toArray, List.set_cons_zero, List.set_cons_succ]
        refine wpAnyH_ready (rs := [67]) (by kernel_rfl) (by simp) ?_
        refine AllReadyH.cons rfl (fun K hK => ?_) AllReadyH.nil
        go_simp
        with_reducible refine (CWO.out _).mono ?_; rintro e w' ⟨rfl, hb⟩; dsimp only
        refine hK.out _ _ ?_ (fun hHeld => ?_)
        · exact Two.step ‹Two _ _ _ _› hb
        clear hK K
        try simp only [Act.put, List.setIfInBounds_toArray, List.set_cons_zero, List.set_cons_succ]
        refine wpAnyH_take (i := 68) (v := ?_) rfl (by kernel_rfl) (by kernel_rfl) (by kernel_rfl) (fun _ _ _ h => h) (Or.inl ⟨by kernel_rfl, ?_⟩) (by assumption) ?_
        rotate_left
        · intro W hSw; go_simp; first | done | with_reducible rfl
        try simp only [Act.put, List.setIfInBounds_toArray, List.set_cons_zero, List.set_cons_succ]
        refine wpAnyH_take (i := 69) (v := ?_) rfl (by kernel_rfl) (by kernel_rfl) (by kernel_rfl) (fun _ _ _ h => h) (Or.inl ⟨by kernel_rfl, ?_⟩) (by assumption) ?_
        rotate_left
        · intro W hSw; go_simp; first | done | with_reducible rfl
        try simp only [Act.put, List.setIfInBounds_toArray, List.set_cons_zero, List.set_cons_succ]
        refine wpAnyH_done (by kernel_rfl) ?_ _
        simp only [Act.put, List.setIfInBounds_toArray, List.set_cons_zero, List.set_cons_succ, List.getElem_toArray, List.getElem_cons_zero, List.getElem_cons_succ]
        go_wp2
        have hT := hHeld
        go_ret
        exact ⟨rfl, below_step HB.out hT.2.2⟩
end Go.Proofs.Ytmojlhpkidbklaa.Ag
namespace Go.Proofs.Ytmojlhpkidbklaa.PAll
open Go.RowKit Go.Proofs.Ytmojlhpkidbklaa.Xw Go.Proofs.YtmojlhpkidbklaaW.PrintWords Go.Proofs.YtmojlhpkidbklaaW.PrintLast Go.Proofs.YtmojlhpkidbklaaW.PrintMore
theorem spencelaw18_BitmapTwo.calls (A0 : Option Addr) (c0 : Nat) (l0 : List Int) (A1 : Option Addr) (c1 : Nat) (l1 : List Int) (a2 : Int) (r : Bool) (w : World) (hr0 : Kd.C (Kd.int .i64) w A0 l0.length l0) (hc0 : l0.length ≤ c0) (hr1 : Kd.C (Kd.int .i64) w A1 l1.length l1) (hc1 : l1.length ≤ c1) (h : spencelaw18_BitmapTwo.f l0 l1 a2 = some r) :
    Calls Try.prog 8 #[.slice A0 l0.length c0, .slice A1 l1.length c1, .int .i64 a2] w fun e w' => e = .returned (.bool r) ∧ Below w.heap.size w w' := by
  obtain rfl := Option.some.inj h
  exact Ag.two_calls A0 c0 l0 A1 c1 l1 a2 w hr0 hc0 hr1 hc1
end Go.Proofs.Ytmojlhpkidbklaa.PAll
namespace Go.Proofs.Ytmojlhpkidbklaa.Pure
theorem BitmapTwo (l0 l1 : List Int) (a2 : Int) (_ : l0.length * 8 ≤ 140737488351232) (_ : ∀ x ∈ l0, (Lit.int .i64 x).wf = true) (_ : l1.length * 8 ≤ 140737488351232) (_ : ∀ x ∈ l1, (Lit.int .i64 x).wf = true) (_ : (Lit.int .i64 a2).wf = true) : PAll.spencelaw18_BitmapTwo.f l0 l1 a2 = some true := rfl
end Go.Proofs.Ytmojlhpkidbklaa.Pure
namespace Go.Proofs.Ytmojlhpkidbklaa.bitmapTwo
open Go.ChangeShapes Go.WideShapes Go.ChangeAt Go.RowKit Go.Proofs.Ytmojlhpkidbklaa.Rd Go.Proofs.Ytmojlhpkidbklaa.PAll Go.Proofs.YtmojlhpkidbklaaW.PrintWords
open Go.ChangeMaps (open_string shut_string)
set_option linter.unusedVariables false
theorem own : ownKnob Try.prog.godebug = none := by kernel_rfl
theorem laidOut : laidOutB Try.prog = true := by kernel_rfl
set_option maxRecDepth 100000 in
set_option maxHeartbeats 4000000 in
theorem lifted (os : Os) (started : os.Started) (H : Type) (enc : TypeId × Value → H) :
    ReturnsInHanded {} Try.checked os 8 .any (Rows.bitmapTwoSpec.pre6 enc Try.prog Try.f8 Rows.bitmapTwoRow.domain false) (Rows.bitmapTwoSpec.post enc Try.prog Try.f8 false true false false) := by
  refine returnsInHanded_of_change_sized (C := Try.checked) own started (by kernel_rfl) Try.func8
    (ChangeSpec.witness6 (enc := enc) (C := Try.checked) false ⟨#[], #[.slice none 0 0, .slice none 0 0, .int .i64 0], []⟩ 8 (by kernel_rfl) (by kernel_rfl) (by kernel_rfl) (by kernel_rfl)) ?_
  intro W base args ds gs before hval0 hW hcnd hsz0 _
  have hsz : (DataW.weightsEach Try.prog (Try.f8.params.toList ++ Rows.bitmapTwoSpec.plain.varTypes Try.prog) (ds ++ gs)).all (· ≤ reachBytes) = true := hsz0
  have hval : ∀ (j : Nat) t v, Try.f8.params[j]? = some t → args[j]? = some v → Value.okWide Try.prog W .any base t v := hval0
  have hW' := hW
  obtain ⟨p, q, hA0, hV, rfl, hfz, hnd⟩ := hW
  have hA : DataW.TrodAll enc Try.prog W 0 (fun _ => true) true Try.f8.params.toList args.toList ds p := hA0
  rw [Try.params8] at hA hval hsz
  obtain ⟨v0, vs0, d0, ds0, p0, q0, hargs, rfl, rfl, h0, r0⟩ := trodAll_cons hA
  obtain ⟨v1, vs1, d1, ds1, p1, q1, rfl, rfl, rfl, h1, r1⟩ := trodAll_cons r0
  obtain ⟨v2, vs2, d2, ds2, p2, q2, rfl, rfl, rfl, h2, r2⟩ := trodAll_cons r1
  obtain ⟨rfl, rfl, rfl⟩ := trodAll_nil r2
  obtain rfl : args = #[v0, v1, v2] := by cases args; simp_all
  obtain ⟨rfl, rfl⟩ := trodVars_none hV
  have k0 := h0
  have lt0 : ∀ x ∈ p0, x.block < W.heap.size := by obtain ⟨m, hm⟩ := k0; exact DataW.trod_lt m _ _ _ hm
  have k1 := h1
  have lt1 : ∀ x ∈ p1, x.block < W.heap.size := by obtain ⟨m, hm⟩ := k1; exact DataW.trod_lt m _ _ _ hm
  have k2 := h2
  have lt2 : ∀ x ∈ p2, x.block < W.heap.size := by obtain ⟨m, hm⟩ := k2; exact DataW.trod_lt m _ _ _ hm
  obtain ⟨A0, c0, l0, rfl, hc0, hC0, hok0, hb0⟩ := open_row Try.underlying22 (opens_int Try.underlying3) (by kernel_rfl) (hval 0 22 v0 rfl rfl) h0 hsz (j := 0) rfl rfl (B := 8) (by kernel_rfl)
  obtain ⟨A1, c1, l1, rfl, hc1, hC1, hok1, hb1⟩ := open_row Try.underlying22 (opens_int Try.underlying3) (by kernel_rfl) (hval 1 22 v1 rfl rfl) h1 hsz (j := 1) rfl rfl (B := 8) (by kernel_rfl)
  obtain ⟨a2, rfl, rfl, rfl, w2⟩ := open_int Try.underlying3 (hval 2 3 v2 rfl rfl) h2
  clear hA0 hval0 hsz0 hsz
  have hk := Pure.BitmapTwo l0 l1 a2 hb0 hok0 hb1 hok1 w2
  refine (PAll.spencelaw18_BitmapTwo.calls _ _ l0 _ _ l1 a2 true W hC0 hc0 hC1 hc1 hk).mono fun e W' ⟨he, hd⟩ => ?_
  have bel : Below W.heap.size W W' := hd
  subst he
  exact ⟨_, rfl, _, _, _, [], _, [], hW', trodAll_mk1 (shut_bool Try.underlying4 _), (trodAll_cons_mk (Below.trod laidOut (by kernel_rfl) (of_decide_eq_true (by kernel_rfl)) k0 bel lt0) (trodAll_cons_mk (Below.trod laidOut (by kernel_rfl) (of_decide_eq_true (by kernel_rfl)) k1 bel lt1) (trodAll_cons_mk (shut_int Try.underlying3 w2) trodAll_mk0))), rfl, bel.frame _, fun h => by cases h⟩
theorem over : Rows.bitmapTwoRow.holds Try.pinned (OpenSpec.ofChange Rows.bitmapTwoSpec) :=
  OpenClaim.holds_of_wide 8 Try.f8 rfl rfl rfl rfl rfl rfl rfl ⟨rfl, rfl, rfl, rfl, rfl⟩ rfl rfl rfl rfl rfl (by kernel_rfl) Try.func8 (by kernel_rfl)
    (of_decide_eq_true (by kernel_rfl)) (by unfold Func.isWrapper; first | (rw [if_pos (by decide +kernel)]; kernel_rfl) | (rw [if_neg (by decide +kernel)]; exact ⟨rfl, rfl⟩))
    (fun os started H enc _ => lifted os started H enc)
theorem proved : Rows.BitmapTwoSaid := over
end Go.Proofs.Ytmojlhpkidbklaa.bitmapTwo
namespace Go.Proofs.Ytmojlhpkidbklaa
theorem bitmapTwo_holds : Rows.BitmapTwoSaid := bitmapTwo.proved
#print axioms bitmapTwo_holds
end Go.Proofs.Ytmojlhpkidbklaa
