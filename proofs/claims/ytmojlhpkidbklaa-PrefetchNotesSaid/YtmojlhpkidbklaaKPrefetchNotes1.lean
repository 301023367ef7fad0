/- The law PrefetchNotes: for every input the call returns true, and each argument reads behind the call as it read before. No condition. (The row, and the plain law ahead of it.) -/
import Derived.Test.YtmojlhpkidbklaaKPrefetchNotes0
import Derived.WalkKit
import Derived.ProofKit
import Derived.OpenShut
import Derived.ShutString
import Derived.ChangeOld
import Derived.Below
import Derived.SizedLaws
import Derived.Lib.SmallJoins
import Derived.Lib.Bytealg
import Derived.Laws.StandIn
import Derived.Lib.ConvBytes
import Derived.Laws.BytesArg
import Derived.Test.YtmojlhpkidbklaaProg
import Derived.WalkMore
import Derived.Laws.Cover1
import Derived.LoopTactic
import Derived.Lib.Hide
import Derived.Tactics
import Derived.KernelRfl
import Derived.Laws.Rows
import Derived.Laws.IdiomCopy
import Derived.Laws.CopyOwn
import Derived.Deep.LoopGhost
import Derived.Deep.MidRow
import Derived.Lib.SliceRun
import Derived.Deep.Draws
import Derived.Deep.AppendLies
import Derived.Maps.AppendAt
import Derived.OwnWalk
import Derived.Laws.MakeOwn
import Derived.Laws.OwnMore
import Derived.Deep.OwnRows
import Derived.Laws.Slices
import Derived.RowKit3
import Derived.Deep.QuietTactic
import Derived.BigQuiet
import Derived.WideLaws
import Derived.Deep.DeepCutAuto
import Derived.Deep.CutBlock
import Derived.Deep.RegionHeld3
import Derived.Lib.AppendStr
import Derived.ArgAppend
import Derived.OrdersHeld
import Derived.Laws.BitsLemmas
import Derived.RowKit
import Derived.Deep.DrawnRows
import Derived.Test.YtmojlhpkidbklaaRows
namespace Go.Proofs.Ytmojlhpkidbklaa.Rd
open Go.RowKit Go.ChangeShapes Go.WideShapes Go.ChangeAt Go.Proofs.YtmojlhpkidbklaaW.PrintWords
set_option linter.unusedVariables false
set_option linter.unusedSimpArgs false
def Opens {α : Type} (P : Program) (t : TypeId) (d : Kd α) (ok : α → Prop) : Prop :=
  ∀ (H : Type) (enc : TypeId × Value → H) (W : World) (spare : Nat → Bool) (held : Bool) (fuel : Nat) (cs : List Value) (x : DataW H × List MemPlace),
    DataW.trod enc P W 0 spare held fuel t cs = some x → ∃ a, d.K W a cs ∧ ok a
def OpensF {α : Type} (P : Program) (o : Nat) (l : List Field) (d : Kd α) (ok : α → Prop) : Prop :=
  ∀ (H : Type) (enc : TypeId × Value → H) (W : World) (spare : Nat → Bool) (held : Bool) (fuel : Nat) (cs : List Value),
    (∀ f ∈ l, ∃ x, DataW.trod enc P W 0 spare held fuel f.type ((cs.drop f.offset).take (P.cellsOf f.type)) = some x) → ∃ a, d.K W a ((cs.drop o).take d.sz) ∧ ok a
section
variable {P : Program} {t e : TypeId} {α β : Type}
theorem opens_int {k : IntKind} (hu : P.underlying t = some (.int k)) : Opens P t (Kd.int k) (fun n => (Lit.int k n).wf = true) := by
  intro H enc W spare held fuel cs x h
  obtain ⟨n, rfl, _, hw⟩ := DataW.trod_int hu h
  exact ⟨n, rfl, hw⟩
theorem opensF_one {f : Field} {o : Nat} {d : Kd α} {ok : α → Prop} (h : Opens P f.type d ok) (ho : f.offset = o) (hs : P.cellsOf f.type = d.sz) : OpensF P o [f] d ok := by
  intro H enc W spare held fuel cs hf
  obtain ⟨x, hx⟩ := hf f (by simp)
  rw [ho, hs] at hx
  exact h H enc W spare held fuel _ x hx
theorem opensF_cons {f : Field} {l : List Field} {o o' : Nat} {a : Kd α} {b : Kd β} {oka : α → Prop} {okb : β → Prop} (h : Opens P f.type a oka) (ho : f.offset = o) (hs : P.cellsOf f.type = a.sz)
    (ho' : o' = o + a.sz) (hl : OpensF P o' l b okb) : OpensF P o (f :: l) (Kd.pair a b) (fun x => oka x.1 ∧ okb x.2) := by
  intro H enc W spare held fuel cs hf
  subst ho'
  obtain ⟨x, hx⟩ := hf f (by simp)
  rw [ho, hs] at hx
  obtain ⟨p, hp, hop⟩ := h H enc W spare held fuel _ x hx
  obtain ⟨q, hq, hoq⟩ := hl H enc W spare held fuel cs (fun g hg => hf g (by simp [hg]))
  refine ⟨(p, q), ⟨_, _, ?_, hp, hq⟩, hop, hoq⟩
  show (cs.drop o).take (a.sz + b.sz) = _
  rw [List.take_add, List.drop_drop]
theorem opens_struct {fs : Array Field} {d : Kd α} {ok : α → Prop} (hu : P.underlying t = some (.struct fs)) (hF : OpensF P 0 fs.toList d ok) (hc : P.cellsOf t = d.sz) (f : β → α) (g : α → β) (hfg : ∀ a, f (g a) = a) :
    Opens P t (Kd.iso d f) (fun x => ok (f x)) := by
  intro H enc W spare held fuel cs x h
  obtain ⟨xs, n, rfl, rfl, hl, hlen, hf⟩ := DataW.trod_struct hu h
  obtain ⟨a, ha, hok⟩ := hF H enc W spare held n cs (fun q hq => by
    obtain ⟨i, hi, rfl⟩ := List.mem_iff_getElem.1 hq
    have hi' : i < xs.length := by rw [hlen]; simpa using hi
    refine ⟨xs[i], ?_⟩
    have := hf i fs.toList[i] (by simp)
    rw [this, List.getElem?_eq_getElem hi'])
  refine ⟨g a, ?_, by show ok (f (g a)); rw [hfg]; exact hok⟩
  show d.K W (f (g a)) cs
  rw [hfg]
  simpa [← hc, ← hl] using ha
theorem listed (Q : Nat → α → Prop) : ∀ n, (∀ i, i < n → ∃ a, Q i a) → ∃ l : List α, l.length = n ∧ ∀ i a, l[i]? = some a → Q i a
  | 0, _ => ⟨[], rfl, fun i a h => by simp at h⟩
  | n + 1, h => by
    obtain ⟨l, hl, hq⟩ := listed Q n (fun i hi => h i (by omega))
    obtain ⟨a, ha⟩ := h n (by omega)
    refine ⟨l ++ [a], by simp [hl], fun i b hb => ?_⟩
    by_cases hi : i < l.length
    · rw [List.getElem?_append_left hi] at hb
      exact hq i b hb
    · have : i < (l ++ [a]).length := (List.getElem?_eq_some_iff.1 hb).1
      have hi2 : i = l.length := by simp at this; omega
      subst hi2
      simp at hb
      subst hb
      rw [hl]; exact ha
/-- A slice, opened: its elements are of the kind. -/
theorem open_elems {H : Type} {enc : TypeId × Value → H} {W : World} {spare : Nat → Bool} {held : Bool} {fuel : Nat} {cs : List Value} {x : DataW H × List MemPlace} {d : Kd α} {ok : α → Prop}
    (hu : P.underlying t = some (.slice e)) (he : Opens P e d ok) (hc : P.cellsOf e = d.sz) (h : DataW.trod enc P W 0 spare held fuel t cs = some x) :
    ∃ A c, ∃ l : List α, cs = [.slice A l.length c] ∧ l.length ≤ c ∧ d.C W A l.length l ∧ (∀ y ∈ l, ok y) ∧
      (l = [] ∨ ∃ elems rest, x.1 = .slice elems rest ∧ elems.length = l.length) := by
  rcases DataW.trod_slice hu h with ⟨rfl, rfl⟩ | ⟨a, len, cap, elems, rest, n, rfl, rfl, rfl, hb, hl, hm, hlen, hel, _⟩
  · exact ⟨none, 0, [], rfl, Nat.le_refl _, ⟨rfl, by simp, fun h => by simp at h⟩, by simp, .inl rfl⟩
  · obtain ⟨l, hll, hq⟩ := listed (fun i y => ok y ∧ ∃ c, W.cells? 0 (a.add (i * d.sz)) d.sz = some c ∧ d.K W y c) len (fun i hi => by
      have h1 := hel i hi
      have hi' : i < elems.length := by omega
      rw [List.getElem?_eq_getElem hi', hc] at h1
      obtain ⟨c, hc1, hc2⟩ := Option.bind_eq_some_iff.1 h1
      obtain ⟨y, hy, hoy⟩ := he H enc W spare held n c _ hc2
      exact ⟨y, hoy, c, hc1, hy⟩)
    subst hll
    refine ⟨some a, cap, l, rfl, hl, ⟨rfl, by unfold maxLen at hm; omega, fun _ => ⟨a, rfl, fun j p hj => ?_⟩⟩, fun y hy => ?_, .inr ⟨_, _, rfl, by simpa using hlen⟩⟩
    · obtain ⟨_, c, hc1, hk⟩ := hq j p hj
      obtain ⟨_, hcl, hcell⟩ := World.cells?_some hc1
      refine ⟨c, hcl, hk, fun i u hu => ?_⟩
      rw [← Addr.add_add]
      have hi : i < d.sz := by rw [← hcl]; exact (List.getElem?_eq_some_iff.1 hu).1
      rw [hcell i hi]
      exact hu
    · obtain ⟨i, hi⟩ := List.mem_iff_getElem?.1 hy
      exact (hq i y hi).1
/-- A parameter that is a slice. -/
theorem open_row {H : Type} {enc : TypeId × Value → H} {W : World} {spare : Nat → Bool} {held : Bool} {v : Value} {dd : DataW H} {ps : List MemPlace} {d : Kd α} {ok : α → Prop} {r : Reach} {b0 : Nat}
    (hu : P.underlying t = some (.slice e)) (he : Opens P e d ok) (hc : P.cellsOf e = d.sz) (hv : Value.okWide P W r b0 t v) (h : DataW.Trod enc P W 0 spare held t v dd ps)
    {ts : List TypeId} {ds : List (DataW H)} {j : Nat} (hsz : (DataW.weightsEach P ts ds).all (· ≤ reachBytes) = true) (ht : ts[j]? = some t) (hd : ds[j]? = some dd) {B : Nat} (hB : P.bytesOf e = B) :
    ∃ A c, ∃ l : List α, v = .slice A l.length c ∧ l.length ≤ c ∧ d.C W A l.length l ∧ (∀ y ∈ l, ok y) ∧ l.length * B ≤ 140737488351232 := by
  obtain ⟨a, len, cap, rfl⟩ := okWide_slice hu hv
  obtain ⟨fuel, hf⟩ := h
  obtain ⟨A, c, l, hcs, hl, hC, hok, hx⟩ := open_elems hu he hc hf
  simp [Value.cells] at hcs
  obtain ⟨rfl, rfl, rfl⟩ := hcs
  refine ⟨_, _, l, rfl, hl, hC, hok, ?_⟩
  rcases hx with rfl | ⟨elems, rest, hx, hlen⟩
  · simp
  · simp only at hx
    subst hx
    have z := sized_slice hsz ht hd hu
    rw [hB] at z
    rw [← hlen]
    exact Nat.le_trans (Nat.mul_le_mul_right _ (Nat.le_add_right _ _)) (by simpa [reachBytes] using z)
end
end Go.Proofs.Ytmojlhpkidbklaa.Rd
namespace Go.Proofs.Ytmojlhpkidbklaa.Xw
open Go.RowKit Go.Proofs.YtmojlhpkidbklaaW.PrintWords
theorem ne_empty (l : List UInt8) : Ending.returned (Value.bool !l.isEmpty) = Ending.returned (Value.bool (l != [])) := by cases l <;> rfl
theorem eq_empty (l : List UInt8) : Ending.returned (Value.bool l.isEmpty) = Ending.returned (Value.bool (l == [])) := by cases l <;> rfl
def lowI (x : Int) : Int := if 65 ≤ x ∧ x ≤ 90 then x - 65 + 97 else x
def lowAt (s : ByteArray) (k j : Nat) : Int := if j < k then lowI (bt s j) else bt s j
structure LowIn (s : ByteArray) (g : Nat) (k : Nat) (w wr : World) : Prop where
  cells : ∀ j, j < s.size → wr.cell? ⟨g, j, none⟩ = some (.int .u8 (lowAt s k j))
  free : ∀ j, j < s.size → wr.frozen? ⟨g, j, none⟩ = false
  below : Below w.heap.size w wr
end Go.Proofs.Ytmojlhpkidbklaa.Xw
namespace Go.Proofs.Ytmojlhpkidbklaa.Ag
open Go.RowKit Go.Proofs.Ytmojlhpkidbklaa.Xw Go.Proofs.YtmojlhpkidbklaaW.PrintWords Go.Proofs.YtmojlhpkidbklaaW.PrintLast Go.Proofs.YtmojlhpkidbklaaW.PrintMore
def agC (k : IntKind) (n : Nat) (f : Nat → Int) : Array Value := ((List.range n).map fun i => Value.int k (f i)).toArray
theorem agC_size (k n f) : (agC k n f).size = n := by simp [agC]
theorem agC_get (k n f) (i : Nat) (h : i < n) : (agC k n f)[i]? = some (.int k (f i)) := by simp [agC, h]
theorem agC_one (k n f) : (agC k n f).all (·.oneCell') = true := by
  rw [Array.all_eq_true_iff_forall_mem]
  intro x hx
  simp only [agC, List.mem_toArray, List.mem_map] at hx
  obtain ⟨i, _, rfl⟩ := hx
  rfl
theorem alloc_size (w : World) (o : Obj) : (w.alloc o).heap.size = w.heap.size + 1 := by
  unfold World.alloc
  exact Array.size_push _
def putF (f : Nat → Int) (q : Nat) (v : Int) : Nat → Int := fun j => if j = q then v else f j
theorem agC_set (k n f) (q : Nat) (v : Int) : (agC k n f).setIfInBounds q (.int k v) = agC k n (putF f q v) := by
  apply Array.ext
  · simp [agC]
  · intro i h1 h2
    simp only [agC, putF, List.getElem_toArray, List.getElem_map, List.getElem_range]
    by_cases hq : q = i
    · subst hq; simp
    · have : ¬ i = q := fun e => hq e.symm
      simp [hq, this]
theorem cell_new (w : World) (f : Nat → Int) (k : IntKind) (n t j : Nat) (h : j < n) : (w.alloc (Obj.cells (agC k n f) t)).cell? ⟨w.heap.size, j, none⟩ = some (.int k (f j)) := by
  have := blk_cell (blk_new w (.cells (agC k n f) t (0, 0))) j
  rw [agC_get k n f j h] at this
  exact this
section
variable {P : Program} {ops : Array Oper} {rest : List Oper} {o : Oper} {a : Act} {Q : Exit → Act → World → Prop} {W : World}
theorem ag_gate {t : TypeId} {x : Operand} (_ho : o.op = .load t x) (h : wpList P ops Q (o :: rest) a W) : wpList P ops Q (o :: rest) a W := h
/-- a whole variable, read -/
theorem row_load (hgd : o.guard = none) (ty : TypeId) (x : Operand) (ho : o.op = .load ty x) (g : Nat) (hx : a.eval x = .pointer (some ⟨g, 0, none⟩)) (k : IntKind) (n : Nat) (f : Nat → Int) (t : TypeId) (d : TypeDesc)
    (hg : W.heap[g]? = some (.cells (agC k n f) t (0, 0))) (hu : P.underlying ty = some d) (hd : (match d with | .struct _ | .array _ _ => true | _ => false) = true) (hi : (P.info? ty).map (·.size) = some n)
    (h : wpList P ops Q rest (a.put o.dst (.agg (agC k n f))) W) : wpList P ops Q (o :: rest) a W :=
  wpList_load_row hgd ty x ho g hx t (agC k n f) (0, 0) d hg hu hd (by rw [hi, agC_size]) h
/-- a whole variable, written -/
theorem row_store (hgd : o.guard = none) (ty : TypeId) (x y : Operand) (ho : o.op = .store ty x y) (hN : o.dst = none) (g : Nat) (hx : a.eval x = .pointer (some ⟨g, 0, none⟩)) (k : IntKind) (n : Nat) (f : Nat → Int) (hy : a.eval y = .agg (agC k n f))
    (old : Array Value) (t : TypeId) (hg : W.heap[g]? = some (.cells old t (0, 0))) (hi : (P.info? ty).map (·.size) = some n) (ho' : old.size = n)
    (h : ∀ w1, w1.heap[g]? = some (.cells (agC k n f) t (0, 0)) → (∀ j, j ≠ g → w1.heap[j]? = W.heap[j]?) → (∀ B w0, Below B w0 W → B ≤ g → Below B w0 w1) → wpList P ops Q rest a w1) : wpList P ops Q (o :: rest) a W := by
  refine wpList_plain hgd fun K hK => ?_
  unfold Oper.wp execOp
  simp only [ho, hx, hy, Instr.storeAt, Instr.sureAddr, Sem.run_bind, Sem.run_pure, Result.andThen_ok, run_storeVar_row W g t ty old (agC k n f) hg (by rw [hi, agC_size]) (by rw [ho', agC_size]) (agC_one k n f)]
  have e : a.put o.dst undef = a := by rw [hN]; rfl
  show K (a.put o.dst undef) (W.setRow g (agC k n f))
  rw [e]
  exact hK _ _ (h _ (setRow_heap W g old (agC k n f) t (0, 0) hg) (fun j hj => setRow_other W g j _ hj) (fun B w0 hb hB => below_setRow hb hB _))
end
end Go.Proofs.Ytmojlhpkidbklaa.Ag
namespace Go.Proofs.Ytmojlhpkidbklaa.Ag
open Go.RowKit Go.Proofs.Ytmojlhpkidbklaa.Xw Go.Proofs.YtmojlhpkidbklaaW.PrintWords Go.Proofs.YtmojlhpkidbklaaW.PrintLast Go.Proofs.YtmojlhpkidbklaaW.PrintMore
theorem info_map : (Try.prog.info? 44).map (·.size) = some 65 := by kernel_rfl
theorem zero_map : Try.zeroCells44 = agC .u64 65 (fun _ => 0) := by kernel_rfl
set_option maxHeartbeats 4000000 in
set_option maxRecDepth 100000 in
theorem may_calls (i : Int) (w : World) : Calls Try.prog 59 #[.int .i64 i] w fun e w' => e = .returned (.bool (decide (0 ≤ i ∧ i ≤ 4096))) ∧ w' = w := by
  by_cases h1 : 0 ≤ i
  · have c1 : decide (i ≥ 0) = true := decide_eq_true h1
    by_cases h2 : i ≤ 4096
    · have c2 : decide (i ≤ 4096) = true := decide_eq_true h2
      rw [decide_eq_true ⟨h1, h2⟩]
      go_enter Try.func59, Try.ntmps59
      go_wp2
      all_goals (go_ret; exact ⟨rfl, rfl⟩)
    · have c2 : decide (i ≤ 4096) = false := decide_eq_false h2
      rw [decide_eq_false (fun h => h2 h.2)]
      go_enter Try.func59, Try.ntmps59
      go_wp2
      all_goals (go_ret; exact ⟨rfl, rfl⟩)
  · have c1 : decide (i ≥ 0) = false := decide_eq_false h1
    rw [decide_eq_false (fun h => h1 h.1)]
    go_enter Try.func59, Try.ntmps59
    go_wp2
    all_goals (go_ret; exact ⟨rfl, rfl⟩)
theorem qr (i : Int) (h0 : 0 ≤ i) (h1 : i ≤ 4096) : ∃ q r : Nat, Int.tdiv i 64 = q ∧ Int.tmod i 64 = r ∧ q < 65 ∧ r < 64 ∧ i = 64 * q + r := by
  obtain ⟨n, rfl⟩ : ∃ n : Nat, i = n := ⟨i.toNat, by omega⟩
  refine ⟨n / 64, n % 64, by rw [Int.tdiv_eq_ediv_of_nonneg (by omega)]; rfl, by rw [Int.tmod_eq_emod_of_nonneg (by omega)]; rfl, by omega, by omega, by omega⟩
def hasF (f : Nat → Int) (i : Int) : Bool := decide (0 ≤ i ∧ i ≤ 4096) && (bits .and .u64 (f (i.toNat / 64) / 2 ^ (i.toNat % 64)) 1 == 1)
def withF (f : Nat → Int) (i : Int) : Nat → Int := if 0 ≤ i ∧ i ≤ 4096 then putF f (i.toNat / 64) (bits .or .u64 (f (i.toNat / 64)) (IntKind.u64.wrap (2 ^ (i.toNat % 64)))) else f
set_option maxHeartbeats 4000000 in
set_option maxRecDepth 100000 in
theorem has_calls (f : Nat → Int) (i : Int) (w : World) : Calls Try.prog 31 #[.agg (agC .u64 65 f), .int .i64 i] w fun e w' => e = .returned (.bool (hasF f i)) ∧ Below w.heap.size w w' := by
  by_cases h : 0 ≤ i ∧ i ≤ 4096
  · have hm : decide (0 ≤ i ∧ i ≤ 4096) = true := decide_eq_true h
    obtain ⟨q, r, hq, hr, hq1, hr1, hi⟩ := qr i h.1 h.2
    have hc := cell_new w f .u64 65 44 q (by omega)
    have hv : hasF f i = (bits .and .u64 (f q / 2 ^ r) 1 == 1) := by
      have e1 : i.toNat / 64 = q := by omega
      have e2 : i.toNat % 64 = r := by omega
      unfold hasF; rw [hm, e1, e2, Bool.true_and]
    rw [hv]
    clear hi hv h
    go_enter Try.func31, Try.ntmps31
    go_wp2_with (fail)
    refine (may_calls i _).mono ?_
    rintro e w' ⟨rfl, rfl⟩
    rw [hm]
    dsimp only
    go_wp2_with (fail)
    go_ret
    exact ⟨rfl, below_alloc (Below.refl _ _) _⟩
  · have hm : decide (0 ≤ i ∧ i ≤ 4096) = false := decide_eq_false h
    have hv : hasF f i = false := by unfold hasF; rw [hm, Bool.false_and]
    rw [hv]
    clear hv h
    go_enter Try.func31, Try.ntmps31
    go_wp2_with (fail)
    refine (may_calls i _).mono ?_
    rintro e w' ⟨rfl, rfl⟩
    rw [hm]
    dsimp only
    go_wp2_with (fail)
    go_ret
    exact ⟨rfl, below_alloc (Below.refl _ _) _⟩
set_option maxHeartbeats 4000000 in
set_option maxRecDepth 100000 in
theorem with_calls (f : Nat → Int) (i : Int) (w : World) : Calls Try.prog 55 #[.agg (agC .u64 65 f), .int .i64 i] w fun e w' => e = .returned (.agg (agC .u64 65 (withF f i))) ∧ Below w.heap.size w w' := by
  have BK1 := blk_alloc (blk_new w (.cells (agC .u64 65 f) 44 (0, 0))) (.cells Try.zeroCells44 44 (0, 0))
  have BK2 := blk_new (w.alloc (.cells (agC .u64 65 f) 44 (0, 0))) (.cells Try.zeroCells44 44 (0, 0))
  have HB := below_alloc (below_alloc (Below.refl w.heap.size w) (.cells (agC .u64 65 f) 44 (0, 0))) (.cells Try.zeroCells44 44 (0, 0))
  rw [alloc_size] at BK2
  have BK1 := Aside0.mk BK1
  have BK2 := Aside0.mk BK2
  have HB := Aside0.mk HB
  by_cases h : 0 ≤ i ∧ i ≤ 4096
  · have hm : decide (0 ≤ i ∧ i ≤ 4096) = true := decide_eq_true h
    obtain ⟨q, r, hq, hr, hq1, hr1, hi⟩ := qr i h.1 h.2
    have hv : withF f i = putF f q (bits .or .u64 (f q) (IntKind.u64.wrap (2 ^ r))) := by
      have e1 : i.toNat / 64 = q := by omega
      have e2 : i.toNat % 64 = r := by omega
      unfold withF; rw [if_pos h, e1, e2]
    rw [hv]
    clear hi h hv
    generalize hf2 : putF f q (bits .or .u64 (f q) (IntKind.u64.wrap (2 ^ r))) = f2
    have hf2 := Aside0.mk hf2
    go_enter Try.func55, Try.ntmps55
    go_wp2_with (fail)
    refine (may_calls i _).mono ?_
    rintro e w' ⟨rfl, rfl⟩
    rw [hm]
    dsimp only
    go_wp2_with (fail)
    generalize (w.alloc (.cells (agC .u64 65 f) 44 (0, 0))).alloc (.cells Try.zeroCells44 44 (0, 0)) = w1 at BK1 BK2 HB ⊢
    have hc := blk_cell BK1.out q
    rw [agC_get _ _ _ _ hq1] at hc
    have hfz := blk_frozen BK1.out q
    go_region
    have BK3 := blk_drew (blk_set BK1.out q (Value.int IntKind.u64 (bits BinOp.or IntKind.u64 (f q) (IntKind.u64.wrap (2 ^ r)))))
    have BK4 := blk_drew (blk_far BK2.out (p := ⟨w.heap.size, q, none⟩) (by show w.heap.size + 1 ≠ w.heap.size; omega) (Value.int IntKind.u64 (bits BinOp.or IntKind.u64 (f q) (IntKind.u64.wrap (2 ^ r)))))
    have HB2 := below_drew (below_set (j := q) (v := Value.int IntKind.u64 (bits BinOp.or IntKind.u64 (f q) (IntKind.u64.wrap (2 ^ r)))) HB.out (Nat.le_refl _))
    rw [agC_set, hf2.out] at BK3
    generalize (w1.setCell ⟨w.heap.size, q, none⟩ (Value.int IntKind.u64 (bits BinOp.or IntKind.u64 (f q) (IntKind.u64.wrap (2 ^ r))))).drew = w2 at BK3 BK4 HB2 ⊢
    clear BK1 BK2 HB hc hfz
    have BK3 := Aside0.mk BK3
    have BK4 := Aside0.mk BK4
    have HB2 := Aside0.mk HB2
    go_wp2_with (first | ((with_reducible refine gate_dst (N := 18) rfl ?_); refine row_load rfl 44 (.tmp 2) rfl w.heap.size rfl .u64 65 f2 44 _ BK3.out Try.underlying44 rfl info_map ?_) | ((with_reducible refine gate_store (t := 44) (p := 4) rfl ?_); refine row_store rfl 44 (.tmp 4) (.tmp 18) rfl rfl (w.heap.size + 1) rfl .u64 65 f2 rfl _ 44 BK4.out info_map (by rw [zero_map, agC_size]) ?_; intro w3 BK5 BK6 HB3))
    refine bodyPost_ret (v := .agg (agC .u64 65 f2)) (results_cell_row (p := 4) (ty := 44) Try.results55 _ _ (w.heap.size + 1) 44 _ (0, 0) _ rfl BK5 Try.underlying44 rfl (by rw [info_map, agC_size])) rfl ⟨rfl, HB3 _ _ HB2.out (by omega)⟩
  · have hm : decide (0 ≤ i ∧ i ≤ 4096) = false := decide_eq_false h
    have hv : withF f i = f := by unfold withF; rw [if_neg h]
    rw [hv]
    clear hv h
    go_enter Try.func55, Try.ntmps55
    go_wp2_with (fail)
    refine (may_calls i _).mono ?_
    rintro e w' ⟨rfl, rfl⟩
    rw [hm]
    dsimp only
    generalize (w.alloc (.cells (agC .u64 65 f) 44 (0, 0))).alloc (.cells Try.zeroCells44 44 (0, 0)) = w2 at BK1 BK2 HB ⊢
    have BK3 := BK1
    have BK4 := BK2
    have HB2 := HB
    clear BK1 BK2 HB
    go_wp2_with (first | ((with_reducible refine gate_dst (N := 18) rfl ?_); refine row_load rfl 44 (.tmp 2) rfl w.heap.size rfl .u64 65 f 44 _ BK3.out Try.underlying44 rfl info_map ?_) | ((with_reducible refine gate_store (t := 44) (p := 4) rfl ?_); refine row_store rfl 44 (.tmp 4) (.tmp 18) rfl rfl (w.heap.size + 1) rfl .u64 65 f rfl _ 44 BK4.out info_map (by rw [zero_map, agC_size]) ?_; intro w3 BK5 BK6 HB3))
    refine bodyPost_ret (v := .agg (agC .u64 65 f)) (results_cell_row (p := 4) (ty := 44) Try.results55 _ _ (w.heap.size + 1) 44 _ (0, 0) _ rfl BK5 Try.underlying44 rfl (by rw [info_map, agC_size])) rfl ⟨rfl, HB3 _ _ HB2.out (by omega)⟩
def zeroF : Nat → Int := fun _ => 0
theorem foldl_snoc {α β : Type} (f : β → α → β) (b : β) (l : List α) (k : Nat) (h : k < l.length) : (l.take (k + 1)).foldl f b = f ((l.take k).foldl f b) l[k] := by
  rw [List.take_succ_eq_append_getElem h, List.foldl_append]; rfl
set_option maxHeartbeats 4000000 in
set_option maxRecDepth 100000 in
theorem of_calls (A0 : Option Addr) (c0 : Nat) (l0 : List Int) (w : World) (hr0 : Kd.C (Kd.int .i64) w A0 l0.length l0) (_hc0 : l0.length ≤ c0) :
    Calls Try.prog 26 #[.slice A0 l0.length c0] w fun e w' => e = .returned (.agg (agC .u64 65 (l0.foldl withF zeroF))) ∧ Below w.heap.size w w' := by
  have hb0 : l0.length ≤ 9223372036854775807 := by have := hr0.2.1; unfold maxLen at this; omega
  have BK1 := blk_alloc (blk_new w (.cells Try.zeroCells44 44 (0, 0))) (.cells Try.zeroCells44 44 (0, 0))
  have BK2 := blk_new (w.alloc (.cells Try.zeroCells44 44 (0, 0))) (.cells Try.zeroCells44 44 (0, 0))
  have HB := below_alloc (below_alloc (Below.refl w.heap.size w) (.cells Try.zeroCells44 44 (0, 0))) (.cells Try.zeroCells44 44 (0, 0))
  rw [alloc_size] at BK2
  have BK1 := Aside0.mk BK1
  have BK2 := Aside0.mk BK2
  have HB := Aside0.mk HB
  have HR := Aside0.mk hr0
  clear hr0 _hc0
  have hfin : l0.foldl withF zeroF = (l0.take l0.length).foldl withF zeroF := by rw [List.take_length]
  rw [hfin]
  clear hfin
  obtain ⟨f9, hf9⟩ : ∃ f9, (l0.take l0.length).foldl withF zeroF = f9 := ⟨_, rfl⟩
  rw [hf9]
  have hf9 := Aside0.mk hf9
  go_enter Try.func26, Try.ntmps26
  go_wp2_with (fail)
  generalize (w.alloc (.cells Try.zeroCells44 44 (0, 0))).alloc (.cells Try.zeroCells44 44 (0, 0)) = w1 at BK1 BK2 HB ⊢
  go_loopg [5, 8] l0.length (fun gg _ s8 wr => ∃ kk : Nat, kk ≤ l0.length ∧ l0.length - kk ≤ gg ∧ s8 = .int .i64 kk ∧ Aside0 (Below w.heap.size w wr) ∧ Aside0 (wr.heap[w.heap.size]? = some (.cells Try.zeroCells44 44 (0, 0))) ∧ Aside0 (wr.heap[w.heap.size + 1]? = some (.cells (agC .u64 65 ((l0.take kk).foldl withF zeroF)) 44 (0, 0))))
  case atStart => exact ⟨0, Nat.zero_le _, by omega, rfl, HB, BK1, ⟨by rw [BK2.out, zero_map]; rfl⟩⟩
  case round =>
    clear BK1 BK2 HB
    obtain ⟨kk, hkk, hg, rfl, HB, BK1, BK2⟩ := hrel
    by_cases hlt : kk < l0.length
    · have hltz : (kk : Int) < (l0.length : Int) := by omega
      obtain ⟨ad, e1, hx⟩ := Kd.at_int (Kd.C_below HR.out HB.out) (kk : Int) (by omega) hltz
      cases e1
      simp only [Int.toNat_natCast] at hx
      have hcall := with_calls ((l0.take kk).foldl withF zeroF) (rd l0 kk) wr
      have hnx : (l0.take (kk + 1)).foldl withF zeroF = withF ((l0.take kk).foldl withF zeroF) (rd l0 kk) := by
        rw [foldl_snoc _ _ _ _ hlt]
        congr 1
        unfold rd
        simp [List.getD_eq_getElem?_getD, List.getElem?_eq_getElem hlt]
      generalize (l0.take kk).foldl withF zeroF = f at BK2 hcall hnx
      have hnx := Aside0.mk hnx
      have hcall := Aside0.mk hcall
      go_wp2_with (first | ((with_reducible refine gate_dst (N := 12) rfl ?_); refine row_load rfl 44 (.tmp 3) rfl (w.heap.size + 1) rfl .u64 65 f 44 _ BK2.out Try.underlying44 rfl info_map ?_))
      refine hcall.out.mono ?_
      rintro e w2 ⟨rfl, hb⟩
      dsimp only
      have BK3 := Aside0.mk (blk_below BK1.out hb)
      have BK4 := Aside0.mk (blk_below BK2.out hb)
      have HB2 := Aside0.mk (below_step HB.out hb)
      clear BK1 BK2 HB hcall hb hx HR
      go_wp2_with (first | ((with_reducible refine gate_store (t := 44) (p := 3) rfl ?_); refine row_store rfl 44 (.tmp 3) (.tmp 14) rfl rfl (w.heap.size + 1) rfl .u64 65 (withF f (rd l0 kk)) rfl _ 44 BK4.out info_map (agC_size _ _ _) ?_; intro w3 BK5 BK6 HB3; have BK5 := Aside0.mk BK5; have BK6 := Aside0.mk BK6; have HB3 := Aside0.mk HB3))
      go_roundg (l0.length - (kk + 1))
      case measure => omega
      case rel => exact ⟨kk + 1, by omega, by omega, by go_num, ⟨HB3.out _ _ HB2.out (by omega)⟩, ⟨(BK6.out _ (by omega)).trans BK3.out⟩, ⟨by rw [BK5.out, hnx.out]⟩⟩
    · have hltz : ¬ (kk : Int) < (l0.length : Int) := by omega
      obtain rfl : kk = l0.length := by omega
      clear hg hkk HR hlt
      have BK3 := Aside0.mk (show wr.heap[w.heap.size + 1]? = some (.cells (agC .u64 65 f9) 44 (0, 0)) by rw [← hf9.out]; exact BK2.out)
      clear BK2
      go_wp2_with (first | ((with_reducible refine gate_dst (N := 16) rfl ?_); refine row_load rfl 44 (.tmp 3) rfl (w.heap.size + 1) rfl .u64 65 f9 44 _ BK3.out Try.underlying44 rfl info_map ?_) | ((with_reducible refine gate_store (t := 44) (p := 2) rfl ?_); refine row_store rfl 44 (.tmp 2) (.tmp 16) rfl rfl w.heap.size rfl .u64 65 f9 rfl _ 44 BK1.out info_map (by rw [zero_map, agC_size]) ?_; intro w3 BK5 BK6 HB3))
      refine bodyPost_ret (v := .agg (agC .u64 65 f9)) (results_cell_row (p := 2) (ty := 44) Try.results26 _ _ w.heap.size 44 _ (0, 0) _ rfl BK5 Try.underlying44 rfl (by rw [info_map, agC_size])) rfl ⟨rfl, HB3 _ _ HB.out (Nat.le_refl _)⟩
end Go.Proofs.Ytmojlhpkidbklaa.Ag
namespace Go.Proofs.Ytmojlhpkidbklaa.Ag
open Go.RowKit Go.Proofs.Ytmojlhpkidbklaa.Xw Go.Proofs.YtmojlhpkidbklaaW.PrintWords Go.Proofs.YtmojlhpkidbklaaW.PrintLast Go.Proofs.YtmojlhpkidbklaaW.PrintMore
/-- The block g holds the map f. -/
def Holds (g : Nat) (f : Nat → Int) (w : World) : Prop := w.heap[g]? = some (.cells (agC .u64 65 f) 44 (0, 0))
theorem Holds.load {g : Nat} {f : Nat → Int} {w : World} (h : Holds g f w) : (loadVar 44 ⟨g, 0, none⟩).run Try.prog w = .ok (.agg (agC .u64 65 f)) w := by
  refine run_loadVar_mid w g 0 44 (agC .u64 65 f).toList _ ?_ Try.underlying44 rfl (by rw [info_map]; simp [agC])
  intro j v hv
  rw [Nat.zero_add]
  have := blk_cell h j
  rw [Array.getElem?_toList] at hv
  rw [this]; exact hv
def ldMap (v : Value) : Sem Value := Instr.loadAt 44 v
theorem ldMap_eq (v : Value) : Instr.loadAt 44 v = ldMap v := rfl
theorem Holds.ld {g : Nat} {f : Nat → Int} {w : World} (h : Holds g f w) : (ldMap (.pointer (some ⟨g, 0, none⟩))).run Try.prog w = .ok (.agg (agC .u64 65 f)) w := by
  simp only [ldMap, Instr.loadAt, Instr.sureAddr, Sem.run_bind, Sem.run_pure, Result.andThen_ok, h.load]
theorem Holds.below {g : Nat} {f : Nat → Int} {w w' : World} (h : Holds g f w) (hb : Below w.heap.size w w') : Holds g f w' := blk_below h hb
theorem Holds.drew {g : Nat} {f : Nat → Int} {w : World} (h : Holds g f w) : Holds g f w.drew := blk_drew h
theorem row_put {w : World} {g : Nat} {old cells : Array Value} {t : TypeId} (h : w.heap[g]? = some (.cells old t (0, 0))) : (w.setRow g cells).heap[g]? = some (.cells cells t (0, 0)) := setRow_heap w g old cells t (0, 0) h
theorem row_far {w : World} {g h : Nat} {o : Obj} (hb : w.heap[h]? = some o) (hne : h ≠ g) (cells : Array Value) : (w.setRow g cells).heap[h]? = some o := (setRow_other w g h cells hne).trans hb
theorem row_below {B : Nat} {w0 w : World} (hb : Below B w0 w) {g : Nat} (hg : B ≤ g) {cells : Array Value} : Below B w0 (w.setRow g cells) := below_setRow hb hg _
section
variable {P : Program} {ops : Array Oper} {rest : List Oper} {o : Oper} {a : Act} {Q : Exit → Act → World → Prop} {W : World}
theorem ag_gate_st {t : TypeId} {x y : Operand} (_ho : o.op = .store t x y) (h : wpList P ops Q (o :: rest) a W) : wpList P ops Q (o :: rest) a W := h
/-- a whole variable, written: the world is told in full -/
theorem row_store2 (hgd : o.guard = none) (ty : TypeId) (x y : Operand) (ho : o.op = .store ty x y) (hN : o.dst = none) (g : Nat) (hx : a.eval x = .pointer (some ⟨g, 0, none⟩)) (k : IntKind) (n : Nat) (f : Nat → Int) (hy : a.eval y = .agg (agC k n f))
    (old : Array Value) (t : TypeId) (hg : W.heap[g]? = some (.cells old t (0, 0))) (hi : (P.info? ty).map (·.size) = some n) (ho' : old.size = n)
    (h : wpList P ops Q rest a (W.setRow g (agC k n f))) : wpList P ops Q (o :: rest) a W := by
  refine wpList_plain hgd fun K hK => ?_
  unfold Oper.wp execOp
  simp only [ho, hx, hy, Instr.storeAt, Instr.sureAddr, Sem.run_bind, Sem.run_pure, Result.andThen_ok, run_storeVar_row W g t ty old (agC k n f) hg (by rw [hi, agC_size]) (by rw [ho', agC_size]) (agC_one k n f)]
  have e : a.put o.dst undef = a := by rw [hN]; rfl
  show K (a.put o.dst undef) (W.setRow g (agC k n f))
  rw [e]
  exact hK _ _ h
end
end Go.Proofs.Ytmojlhpkidbklaa.Ag

namespace Go.Proofs.Ytmojlhpkidbklaa.Ag
open Go.RowKit Go.Proofs.Ytmojlhpkidbklaa.Xw Go.Proofs.YtmojlhpkidbklaaW.PrintWords Go.Proofs.YtmojlhpkidbklaaW.PrintLast Go.Proofs.YtmojlhpkidbklaaW.PrintMore
theorem info_trk : (Try.prog.info? 69).map (·.size) = some 32 := by kernel_rfl
abbrev trkZ : Nat → Int := fun _ => 0
theorem zero_trk (w : World) : (zeroValue 69).run Try.prog w = .ok (.agg (agC .i64 32 trkZ)) w := by
  rw [Try.zeroValue69]; rfl
attribute [local go_sem ↓] zero_trk
set_option maxHeartbeats 4000000 in
set_option maxRecDepth 100000 in
theorem new_calls (w : World) : Calls Try.prog 44 #[] w fun e w' => e = .returned (.agg (agC .i64 32 trkZ)) ∧ Below w.heap.size w w' := by
  have BK1 := blk_new w (.cells (agC .i64 32 trkZ) 69 (0, 0))
  have HB := below_alloc (Below.refl w.heap.size w) (.cells (agC .i64 32 trkZ) 69 (0, 0))
  replace BK1 := Aside0.mk BK1
  replace HB := Aside0.mk HB
  go_enter Try.func44, Try.ntmps44
  go_wp2_with (first | ((with_reducible refine gate_store (t := 69) (p := 0) rfl ?_); refine row_store rfl 69 (.tmp 0) (.tmp 1) rfl rfl w.heap.size rfl .i64 32 trkZ rfl _ 69 BK1.out info_trk (agC_size _ _ _) ?_; intro w3 BK5 BK6 HB3))
  refine bodyPost_ret (v := .agg (agC .i64 32 trkZ)) (results_cell_row (p := 0) (ty := 69) Try.results44 _ _ w.heap.size 69 _ (0, 0) _ rfl BK5 Try.underlying69 rfl (by rw [info_trk, agC_size])) rfl ⟨rfl, HB3 _ _ HB.out (Nat.le_refl _)⟩
theorem row_two (w : World) (o : Obj) (a b : Int) : ((w.alloc o).alloc (.cells #[.int .i64 a, .int .i64 b] 66 (0, 0))).heap[w.heap.size + 1]? = some (.cells #[.int .i64 a, .int .i64 b] 66 (0, 0)) := by
  have h := blk_new (w.alloc o) (.cells #[.int .i64 a, .int .i64 b] 66 (0, 0))
  rw [alloc_size] at h
  exact h
theorem fld_row0 (a b : Value) (W : World) : (Instr.field 66 (.agg #[a, b]) 0).run Try.prog W = .ok a W := by kernel_rfl
theorem fld_row1 (a b : Value) (W : World) : (Instr.field 66 (.agg #[a, b]) 1).run Try.prog W = .ok b W := by kernel_rfl
attribute [local go_sem] fld_row0 fld_row1
/-- An object's row: which slice would come next, and how long it is. -/
def nextF (f : Nat → Int) (o : Int) : Int := if 0 ≤ o ∧ o < 16 then f (o.toNat * 2) else 0
def longF (f : Nat → Int) (o : Int) : Int := if 0 ≤ o ∧ o < 16 then f (o.toNat * 2 + 1) else 0
set_option maxHeartbeats 4000000 in
set_option maxRecDepth 100000 in
theorem row_calls (f : Nat → Int) (o : Int) (w : World) : Calls Try.prog 63 #[.agg (agC .i64 32 f), .int .i64 o] w fun e w' => e = .returned (.agg #[.int .i64 (nextF f o), .int .i64 (longF f o)]) ∧ Below w.heap.size w w' := by
  by_cases h0 : o < 0
  · have c0 := decide_eq_true h0
    rw [show nextF f o = 0 by unfold nextF; rw [if_neg (by omega)], show longF f o = 0 by unfold longF; rw [if_neg (by omega)]]
    go_enter Try.func63, Try.ntmps63
    go_wp2_with (fail)
    refine bodyPost_ret (v := .agg #[.int .i64 0, .int .i64 0]) (results_cell_row (p := 4) (ty := 66) Try.results63 _ _ (w.heap.size + 1) 66 #[.int .i64 0, .int .i64 0] (0, 0) _ rfl ?_ Try.underlying66 rfl (by kernel_rfl)) rfl ⟨rfl, ?_⟩
    · exact row_two w _ _ _
    · exact below_alloc (below_alloc (Below.refl _ _) _) _
  by_cases h1 : o ≥ 16
  · have c0 := decide_eq_false h0
    have c1 := decide_eq_true h1
    rw [show nextF f o = 0 by unfold nextF; rw [if_neg (by omega)], show longF f o = 0 by unfold longF; rw [if_neg (by omega)]]
    go_enter Try.func63, Try.ntmps63
    go_wp2_with (fail)
    refine bodyPost_ret (v := .agg #[.int .i64 0, .int .i64 0]) (results_cell_row (p := 4) (ty := 66) Try.results63 _ _ (w.heap.size + 1) 66 #[.int .i64 0, .int .i64 0] (0, 0) _ rfl ?_ Try.underlying66 rfl (by kernel_rfl)) rfl ⟨rfl, ?_⟩
    · exact row_two w _ _ _
    · exact below_alloc (below_alloc (Below.refl _ _) _) _
  obtain ⟨q, rfl⟩ : ∃ q : Nat, o = q := ⟨o.toNat, by omega⟩
  have hc0 := agC_get .i64 32 f (q * 2) (by omega)
  have hc1 := agC_get .i64 32 f (q * 2 + 1) (by omega)
  have c0 := decide_eq_false h0
  have c1 := decide_eq_false h1
  rw [show nextF f q = f (q * 2) by unfold nextF; rw [if_pos (by omega)]; rfl, show longF f q = f (q * 2 + 1) by unfold longF; rw [if_pos (by omega)]; rfl]
  go_enter Try.func63, Try.ntmps63
  go_wp2_with (fail)
  refine bodyPost_ret (v := .agg #[.int .i64 (f (q * 2)), .int .i64 (f (q * 2 + 1))]) (results_cell_row (p := 4) (ty := 66) Try.results63 _ _ (w.heap.size + 1) 66 #[.int .i64 (f (q * 2)), .int .i64 (f (q * 2 + 1))] (0, 0) _ rfl ?_ Try.underlying66 rfl (by kernel_rfl)) rfl ⟨rfl, ?_⟩
  · exact row_two w _ _ _
  · exact below_alloc (below_alloc (Below.refl _ _) _) _
def ldTrk (v : Value) : Sem Value := Instr.loadAt 69 v
theorem ldTrk_eq (v : Value) : Instr.loadAt 69 v = ldTrk v := rfl
theorem ldTrk_run {g : Nat} {f : Nat → Int} {w : World} (h : w.heap[g]? = some (.cells (agC .i64 32 f) 69 (0, 0))) : (ldTrk (.pointer (some ⟨g, 0, none⟩))).run Try.prog w = .ok (.agg (agC .i64 32 f)) w := by
  have hl : (loadVar 69 ⟨g, 0, none⟩).run Try.prog w = .ok (.agg (agC .i64 32 f)) w := by
    refine run_loadVar_mid w g 0 69 (agC .i64 32 f).toList _ ?_ Try.underlying69 rfl (by rw [info_trk]; simp [agC])
    intro j v hv
    rw [Nat.zero_add]
    have := blk_cell h j
    rw [Array.getElem?_toList] at hv
    rw [this]; exact hv
  simp only [ldTrk, Instr.loadAt, Instr.sureAddr, Sem.run_bind, Sem.run_pure, Result.andThen_ok, hl]
attribute [local go_sem ↓] ldTrk_eq
set_option maxHeartbeats 4000000 in
set_option maxRecDepth 100000 in
theorem long_calls (f : Nat → Int) (o : Int) (w : World) : Calls Try.prog 47 #[.agg (agC .i64 32 f), .int .i64 o] w fun e w' => e = .returned (.int .i64 (longF f o)) ∧ Below w.heap.size w w' := by
  have L := ldTrk_run (blk_new w (.cells (agC .i64 32 f) 69 (0, 0)))
  have HB := Aside0.mk (below_alloc (Below.refl w.heap.size w) (.cells (agC .i64 32 f) 69 (0, 0)))
  go_enter Try.func47, Try.ntmps47
  go_wp2_with (fail)
  refine (row_calls f o _).mono ?_
  rintro e w' ⟨rfl, hb⟩
  dsimp only
  go_wp2_with (fail)
  go_ret
  exact ⟨rfl, below_step HB.out hb⟩
set_option maxHeartbeats 4000000 in
set_option maxRecDepth 100000 in
theorem next_calls (f : Nat → Int) (o : Int) (w : World) : Calls Try.prog 48 #[.agg (agC .i64 32 f), .int .i64 o] w fun e w' => e = .returned (.int .i64 (nextF f o)) ∧ Below w.heap.size w w' := by
  have L := ldTrk_run (blk_new w (.cells (agC .i64 32 f) 69 (0, 0)))
  have HB := Aside0.mk (below_alloc (Below.refl w.heap.size w) (.cells (agC .i64 32 f) 69 (0, 0)))
  go_enter Try.func48, Try.ntmps48
  go_wp2_with (fail)
  refine (row_calls f o _).mono ?_
  rintro e w' ⟨rfl, hb⟩
  dsimp only
  go_wp2_with (fail)
  go_ret
  exact ⟨rfl, below_step HB.out hb⟩
def noteF (f : Nat → Int) (o a b : Int) : Nat → Int :=
  if 0 ≤ o ∧ o < 16 ∧ 0 ≤ a ∧ a < b ∧ b ≤ 4096 then putF (putF f (o.toNat * 2 + 1) (if f (o.toNat * 2 + 1) > 0 ∧ (a = f (o.toNat * 2) ∨ a = f (o.toNat * 2) - 1) then f (o.toNat * 2 + 1) + 1 else 1)) (o.toNat * 2) b else f
def TrkOk (m : Int) (f : Nat → Int) : Prop := ∀ q : Nat, 0 ≤ f (q * 2) ∧ f (q * 2) ≤ 4096 ∧ 0 ≤ f (q * 2 + 1) ∧ f (q * 2 + 1) ≤ m
theorem trkZ_ok : TrkOk 0 trkZ := fun _ => ⟨Int.le_refl _, by unfold trkZ; decide, Int.le_refl _, Int.le_refl _⟩
theorem note_ok (m : Int) (f : Nat → Int) (o a b : Int) (h : TrkOk m f) (hm : 0 ≤ m) : TrkOk (m + 1) (noteF f o a b) := by
  intro q
  have hq := h q
  have ho := h o.toNat
  unfold noteF
  split
  · unfold putF
    rename_i hg
    by_cases e : q = o.toNat
    · subst e
      rw [if_pos rfl, if_neg (by omega), if_pos rfl]
      split <;> omega
    · rw [if_neg (by omega), if_neg (by omega), if_neg (by omega), if_neg (by omega)]
      omega
  · omega
/-- The object's row is small. -/
def smallAt (f : Nat → Int) (o : Int) : Bool := decide (-1000000 ≤ f (o.toNat * 2) ∧ f (o.toNat * 2) ≤ 1000000 ∧ -1000000 ≤ f (o.toNat * 2 + 1) ∧ f (o.toNat * 2 + 1) ≤ 1000000)
theorem small_of (m : Int) (hm : m ≤ 1000000) (f : Nat → Int) (hf : TrkOk m f) (o : Int) : smallAt f o = true := by
  have := hf o.toNat
  unfold smallAt; exact decide_eq_true (by omega)
set_option maxHeartbeats 8000000 in
set_option maxRecDepth 100000 in
theorem note_calls (f : Nat → Int) (o a b : Int) (hf : smallAt f o = true) (w : World) : Calls Try.prog 45 #[.agg (agC .i64 32 f), .int .i64 o, .int .i64 a, .int .i64 b] w fun e w' => e = .returned (.agg (agC .i64 32 (noteF f o a b))) ∧ Below w.heap.size w w' := by
  have BK1 := blk_alloc (blk_new w (.cells (agC .i64 32 f) 69 (0, 0))) (.cells (agC .i64 32 trkZ) 69 (0, 0))
  have BK2 := blk_new (w.alloc (.cells (agC .i64 32 f) 69 (0, 0))) (.cells (agC .i64 32 trkZ) 69 (0, 0))
  have HB := below_alloc (below_alloc (Below.refl w.heap.size w) (.cells (agC .i64 32 f) 69 (0, 0))) (.cells (agC .i64 32 trkZ) 69 (0, 0))
  rw [alloc_size] at BK2
  obtain ⟨w1, hw1⟩ : ∃ w1, (w.alloc (.cells (agC .i64 32 f) 69 (0, 0))).alloc (.cells (agC .i64 32 trkZ) 69 (0, 0)) = w1 := ⟨_, rfl⟩
  rw [hw1] at BK1 BK2 HB
  by_cases hg : 0 ≤ o ∧ o < 16 ∧ 0 ≤ a ∧ a < b ∧ b ≤ 4096
  · obtain ⟨h1, h2, h3, h4, h5⟩ := hg
    obtain ⟨q, rfl⟩ : ∃ q : Nat, o = q := ⟨o.toNat, by omega⟩
    have hq := of_decide_eq_true hf
    rw [Int.toNat_natCast] at hq
    have L : ∀ X : Int, (ldTrk (.pointer (some ⟨w.heap.size, 0, none⟩))).run Try.prog ((w1.setCell ⟨w.heap.size, q * 2 + 1, none⟩ (.int .i64 X)).setCell ⟨w.heap.size, q * 2, none⟩ (.int .i64 b)) = .ok (.agg (agC .i64 32 (putF (putF f (q * 2 + 1) X) (q * 2) b))) ((w1.setCell ⟨w.heap.size, q * 2 + 1, none⟩ (.int .i64 X)).setCell ⟨w.heap.size, q * 2, none⟩ (.int .i64 b)) := fun X => by
      have h := blk_set (blk_set BK1 (q * 2 + 1) (.int .i64 X)) (q * 2) (.int .i64 b)
      rw [agC_set, agC_set] at h
      exact ldTrk_run h
    have R : ∀ X : Int, ((w1.setCell ⟨w.heap.size, q * 2 + 1, none⟩ (.int .i64 X)).setCell ⟨w.heap.size, q * 2, none⟩ (.int .i64 b)).heap[w.heap.size + 1]? = some (.cells (agC .i64 32 trkZ) 69 (0, 0)) := fun X =>
      blk_far (blk_far BK2 (p := ⟨w.heap.size, q * 2 + 1, none⟩) (by show w.heap.size + 1 ≠ w.heap.size; omega) (.int .i64 X)) (p := ⟨w.heap.size, q * 2, none⟩) (by show w.heap.size + 1 ≠ w.heap.size; omega) (.int .i64 b)
    have B : ∀ X : Int, Below w.heap.size w ((w1.setCell ⟨w.heap.size, q * 2 + 1, none⟩ (.int .i64 X)).setCell ⟨w.heap.size, q * 2, none⟩ (.int .i64 b)) := fun X => below_set (below_set HB (Nat.le_refl _)) (Nat.le_refl _)
    replace R := Aside0.mk R
    replace B := Aside0.mk B
    have hc0 := blk_cell BK1 (q * 2)
    have hc1 := blk_cell BK1 (q * 2 + 1)
    rw [agC_get _ _ _ _ (by omega)] at hc0 hc1
    have hz0 := blk_frozen BK1 (q * 2)
    have hz1 := blk_frozen BK1 (q * 2 + 1)
    have c1 : decide ((q : Int) < 0) = false := decide_eq_false (by omega)
    have c2 : decide ((q : Int) ≥ 16) = false := decide_eq_false (by omega)
    have c3 : decide (a < 0) = false := decide_eq_false (by omega)
    have c4 : decide (a ≥ b) = false := decide_eq_false (by omega)
    have c5 : decide (b > 4096) = false := decide_eq_false (by omega)
    have hN : noteF f q a b = putF (putF f (q * 2 + 1) (if f (q * 2 + 1) > 0 ∧ (a = f (q * 2) ∨ a = f (q * 2) - 1) then f (q * 2 + 1) + 1 else 1)) (q * 2) b := by
      unfold noteF; rw [if_pos (by omega)]; rfl
    rw [hN]
    clear BK1 BK2 HB hN hf
    generalize hX : (if f (q * 2 + 1) > 0 ∧ (a = f (q * 2) ∨ a = f (q * 2) - 1) then f (q * 2 + 1) + 1 else 1) = X
    go_enter Try.func45, Try.ntmps45
    by_cases hA : f (q * 2 + 1) > 0
    · have d1 := decide_eq_true hA
      by_cases hB : a = f (q * 2)
      · have d2 : (a == f (q * 2)) = true := by simp [hB]
        rw [if_pos ⟨hA, .inl hB⟩] at hX
        subst hX
        go_wp2_with (first | ((with_reducible refine gate_store (t := 69) (p := 8) rfl ?_); refine row_store rfl 69 (.tmp 8) (.tmp 69) rfl rfl (w.heap.size + 1) rfl .i64 32 _ rfl _ 69 (R.out _) info_trk (agC_size _ _ _) ?_; intro w3 BK5 BK6 HB3))
        refine bodyPost_ret (v := .agg (agC .i64 32 _)) (results_cell_row (p := 8) (ty := 69) Try.results45 _ _ (w.heap.size + 1) 69 _ (0, 0) _ rfl BK5 Try.underlying69 rfl (by rw [info_trk, agC_size])) rfl ⟨rfl, HB3 _ _ (B.out _) (by omega)⟩
      · have d2 : (a == f (q * 2)) = false := by simp [hB]
        by_cases hC : a = f (q * 2) - 1
        · have d3 : (a == f (q * 2) - 1) = true := by simp [hC]
          rw [if_pos ⟨hA, .inr hC⟩] at hX
          subst hX
          go_wp2_with (first | ((with_reducible refine gate_store (t := 69) (p := 8) rfl ?_); refine row_store rfl 69 (.tmp 8) (.tmp 69) rfl rfl (w.heap.size + 1) rfl .i64 32 _ rfl _ 69 (R.out _) info_trk (agC_size _ _ _) ?_; intro w3 BK5 BK6 HB3))
          refine bodyPost_ret (v := .agg (agC .i64 32 _)) (results_cell_row (p := 8) (ty := 69) Try.results45 _ _ (w.heap.size + 1) 69 _ (0, 0) _ rfl BK5 Try.underlying69 rfl (by rw [info_trk, agC_size])) rfl ⟨rfl, HB3 _ _ (B.out _) (by omega)⟩
        · have d3 : (a == f (q * 2) - 1) = false := by simp [hC]
          rw [if_neg (by omega)] at hX
          subst hX
          go_wp2_with (first | ((with_reducible refine gate_store (t := 69) (p := 8) rfl ?_); refine row_store rfl 69 (.tmp 8) (.tmp 69) rfl rfl (w.heap.size + 1) rfl .i64 32 _ rfl _ 69 (R.out _) info_trk (agC_size _ _ _) ?_; intro w3 BK5 BK6 HB3))
          refine bodyPost_ret (v := .agg (agC .i64 32 _)) (results_cell_row (p := 8) (ty := 69) Try.results45 _ _ (w.heap.size + 1) 69 _ (0, 0) _ rfl BK5 Try.underlying69 rfl (by rw [info_trk, agC_size])) rfl ⟨rfl, HB3 _ _ (B.out _) (by omega)⟩
    · have d1 := decide_eq_false hA
      rw [if_neg (by omega)] at hX
      subst hX
      go_wp2_with (first | ((with_reducible refine gate_store (t := 69) (p := 8) rfl ?_); refine row_store rfl 69 (.tmp 8) (.tmp 69) rfl rfl (w.heap.size + 1) rfl .i64 32 _ rfl _ 69 (R.out _) info_trk (agC_size _ _ _) ?_; intro w3 BK5 BK6 HB3))
      refine bodyPost_ret (v := .agg (agC .i64 32 _)) (results_cell_row (p := 8) (ty := 69) Try.results45 _ _ (w.heap.size + 1) 69 _ (0, 0) _ rfl BK5 Try.underlying69 rfl (by rw [info_trk, agC_size])) rfl ⟨rfl, HB3 _ _ (B.out _) (by omega)⟩
  · have hN : noteF f o a b = f := by unfold noteF; rw [if_neg hg]
    rw [hN]
    have L := ldTrk_run BK1
    replace HB := Aside0.mk HB
    replace BK2 := Aside0.mk BK2
    clear BK1 hf hN
    go_enter Try.func45, Try.ntmps45
    by_cases g1 : o < 0
    · have c1 := decide_eq_true g1
      go_wp2_with (first | ((with_reducible refine gate_store (t := 69) (p := 8) rfl ?_); refine row_store rfl 69 (.tmp 8) (.tmp 29) rfl rfl (w.heap.size + 1) rfl .i64 32 _ rfl _ 69 (BK2.out) info_trk (agC_size _ _ _) ?_; intro w3 BK5 BK6 HB3))
      refine bodyPost_ret (v := .agg (agC .i64 32 _)) (results_cell_row (p := 8) (ty := 69) Try.results45 _ _ (w.heap.size + 1) 69 _ (0, 0) _ rfl BK5 Try.underlying69 rfl (by rw [info_trk, agC_size])) rfl ⟨rfl, HB3 _ _ (HB.out) (by omega)⟩
    have c1 := decide_eq_false g1
    by_cases g2 : o ≥ 16
    · have c2 := decide_eq_true g2
      go_wp2_with (first | ((with_reducible refine gate_store (t := 69) (p := 8) rfl ?_); refine row_store rfl 69 (.tmp 8) (.tmp 29) rfl rfl (w.heap.size + 1) rfl .i64 32 _ rfl _ 69 (BK2.out) info_trk (agC_size _ _ _) ?_; intro w3 BK5 BK6 HB3))
      refine bodyPost_ret (v := .agg (agC .i64 32 _)) (results_cell_row (p := 8) (ty := 69) Try.results45 _ _ (w.heap.size + 1) 69 _ (0, 0) _ rfl BK5 Try.underlying69 rfl (by rw [info_trk, agC_size])) rfl ⟨rfl, HB3 _ _ (HB.out) (by omega)⟩
    have c2 := decide_eq_false g2
    by_cases g3 : a < 0
    · have c3 := decide_eq_true g3
      go_wp2_with (first | ((with_reducible refine gate_store (t := 69) (p := 8) rfl ?_); refine row_store rfl 69 (.tmp 8) (.tmp 29) rfl rfl (w.heap.size + 1) rfl .i64 32 _ rfl _ 69 (BK2.out) info_trk (agC_size _ _ _) ?_; intro w3 BK5 BK6 HB3))
      refine bodyPost_ret (v := .agg (agC .i64 32 _)) (results_cell_row (p := 8) (ty := 69) Try.results45 _ _ (w.heap.size + 1) 69 _ (0, 0) _ rfl BK5 Try.underlying69 rfl (by rw [info_trk, agC_size])) rfl ⟨rfl, HB3 _ _ (HB.out) (by omega)⟩
    have c3 := decide_eq_false g3
    by_cases g4 : a ≥ b
    · have c4 := decide_eq_true g4
      go_wp2_with (first | ((with_reducible refine gate_store (t := 69) (p := 8) rfl ?_); refine row_store rfl 69 (.tmp 8) (.tmp 29) rfl rfl (w.heap.size + 1) rfl .i64 32 _ rfl _ 69 (BK2.out) info_trk (agC_size _ _ _) ?_; intro w3 BK5 BK6 HB3))
      refine bodyPost_ret (v := .agg (agC .i64 32 _)) (results_cell_row (p := 8) (ty := 69) Try.results45 _ _ (w.heap.size + 1) 69 _ (0, 0) _ rfl BK5 Try.underlying69 rfl (by rw [info_trk, agC_size])) rfl ⟨rfl, HB3 _ _ (HB.out) (by omega)⟩
    have c4 := decide_eq_false g4
    have c5 : decide (b > 4096) = true := decide_eq_true (by omega)
    go_wp2_with (first | ((with_reducible refine gate_store (t := 69) (p := 8) rfl ?_); refine row_store rfl 69 (.tmp 8) (.tmp 29) rfl rfl (w.heap.size + 1) rfl .i64 32 _ rfl _ 69 (BK2.out) info_trk (agC_size _ _ _) ?_; intro w3 BK5 BK6 HB3))
    refine bodyPost_ret (v := .agg (agC .i64 32 _)) (results_cell_row (p := 8) (ty := 69) Try.results45 _ _ (w.heap.size + 1) 69 _ (0, 0) _ rfl BK5 Try.underlying69 rfl (by rw [info_trk, agC_size])) rfl ⟨rfl, HB3 _ _ (HB.out) (by omega)⟩
end Go.Proofs.Ytmojlhpkidbklaa.Ag
namespace Go.Proofs.Ytmojlhpkidbklaa.PAll
open Go.RowKit Go.Proofs.Ytmojlhpkidbklaa.Xw Go.Proofs.YtmojlhpkidbklaaW.PrintWords Go.Proofs.YtmojlhpkidbklaaW.PrintLast Go.Proofs.YtmojlhpkidbklaaW.PrintMore
attribute [local go_sem] max2_int min2_int max_two min_two max_three min_three max_four min_four   -- for this text's walks alone
set_option linter.unusedVariables false
set_option linter.unusedSimpArgs false
def errW : Option Int → Value
  | none => .nilIface
  | some c => .iface 0 (.int .i64 c)
theorem errW_none : errW none = .nilIface := rfl
theorem errW_some (c : Int) : errW (some c) = .iface 0 (.int .i64 c) := rfl
theorem info3 : (Try.prog.info? 3).map (fun i => (i.zero, i.size, i.bytes)) = some (some (.int .i64 0), 1, 8) := by kernel_rfl
structure S86 where
  f0 : Int
  f1 : Int
  f2 : Bool
def z86 : S86 := ⟨(0 : Int), (0 : Int), false⟩
def rd_T86 (xs : List S86) (i : Int) : S86 := xs.getD i.toNat z86
structure S35 where
  f0 : Int
  f1 : Int
def z35 : S35 := ⟨(0 : Int), (0 : Int)⟩
def rd_T35 (xs : List S35) (i : Int) : S35 := xs.getD i.toNat z35
structure S72 where
  f0 : Int
  f1 : Int
  f2 : Int
def z72 : S72 := ⟨(0 : Int), (0 : Int), (0 : Int)⟩
def k72 : Kd S72 := Kd.iso (Kd.pair (Kd.int .i64) (Kd.pair (Kd.int .i64) (Kd.int .i64))) (fun x : S72 => (x.f0, x.f1, x.f2))
theorem k72_open {w : World} {x : S72} {cs : List Value} (h : k72.K w x cs) : cs = [.int .i64 x.f0, .int .i64 x.f1, .int .i64 x.f2] := by
  obtain ⟨_, _, rfl, rfl, ⟨_, _, rfl, rfl, rfl⟩⟩ := h
  exact rfl
def rd_T72 (xs : List S72) (i : Int) : S72 := xs.getD i.toNat z72
theorem at_T72 {w : World} {A : Option Addr} {n : Nat} {xs : List S72} (h : Kd.C k72 w A n xs) (i : Int) (h0 : 0 ≤ i) (h1 : i < n) : ∃ ad , A = some ad ∧ w.cell? (ad.add (i.toNat * 3)) = some (.int .i64 (rd_T72 xs i).f0) ∧ w.cell? ⟨(ad.add (i.toNat * 3)).block, (ad.add (i.toNat * 3)).off + 1, none⟩ = some (.int .i64 (rd_T72 xs i).f1) ∧ w.cell? ⟨(ad.add (i.toNat * 3)).block, (ad.add (i.toNat * 3)).off + 2, none⟩ = some (.int .i64 (rd_T72 xs i).f2) := by
  obtain ⟨ad, c, e, _, hK, hc0⟩ := Kd.C_get h z72 i h0 h1
  have hc : ∀ j u, c[j]? = some u → w.cell? (ad.add (i.toNat * 3 + j)) = some u := hc0
  obtain rfl := k72_open hK
  exact ⟨ad, e, hc 0 _ rfl, by rw [← add_field _ _ 1 (by omega)]; exact hc 1 _ rfl, by rw [← add_field _ _ 2 (by omega)]; exact hc 2 _ rfl⟩
theorem fld35_1 (c0 c1 : Value) (W : World) : (Instr.field 35 (.agg #[c0, c1]) 1).run Try.prog W = .ok (c1) W := by kernel_rfl
attribute [go_sem] fld35_1
end Go.Proofs.Ytmojlhpkidbklaa.PAll
namespace Go.Proofs.Ytmojlhpkidbklaa.PAll
open Go.Proofs.Ytmojlhpkidbklaa.Ag (row_load row_store ag_gate ag_gate_st row_store2)
open Go.RowKit Go.Proofs.Ytmojlhpkidbklaa.Xw Go.Proofs.YtmojlhpkidbklaaW.PrintWords Go.Proofs.YtmojlhpkidbklaaW.PrintLast Go.Proofs.YtmojlhpkidbklaaW.PrintMore
attribute [local go_sem] max2_int min2_int max_two min_two max_three min_three max_four min_four   -- for this text's walks alone
attribute [local go_sem ↓] Ag.ldMap_eq Ag.ldTrk_eq
set_option linter.unusedVariables false
set_option linter.unusedSimpArgs false
def prefetch_Next.f (a0_0 : Nat → Int) (a1 : Int) : Option Int := some (Ag.nextF a0_0 a1)
def spencelaw29_PrefetchNotes.f (l0 : List (S72)) (a1 : Int) : Option (Bool) := some true
end Go.Proofs.Ytmojlhpkidbklaa.PAll
namespace Go.Proofs.Ytmojlhpkidbklaa.Ag
open Go.RowKit
def InU (f : Nat → Int) : Prop := ∀ j, ∃ n : Nat, f j = (n : Int) ∧ n < 2 ^ 64
theorem u64_wr (n : Int) (h0 : 0 ≤ n) (h1 : n < 2 ^ 64) : IntKind.u64.wrap n = n := by
  unfold IntKind.wrap
  simp [IntKind.bits, IntKind.signed]
  omega
theorem two_lt (r : Nat) (h : r < 64) : (2 ^ r : Nat) < 2 ^ 64 := Nat.pow_lt_pow_right (by decide) h
theorem two_cast (r : Nat) : (2 : Int) ^ r = ((2 ^ r : Nat) : Int) := by simp
theorem or_u (a b : Nat) (ha : a < 2 ^ 64) (hb : b < 2 ^ 64) : bits .or .u64 (a : Int) (b : Int) = ((a ||| b : Nat) : Int) := (bits_nat .u64 64 (by decide) u64_wr a b ha hb).2
theorem and_u (a b : Nat) (ha : a < 2 ^ 64) (hb : b < 2 ^ 64) : bits .and .u64 (a : Int) (b : Int) = ((a &&& b : Nat) : Int) := (bits_nat .u64 64 (by decide) u64_wr a b ha hb).1
theorem has_eq (f : Nat → Int) (hU : InU f) (i : Int) : hasF f i = (decide (0 ≤ i ∧ i ≤ 4096) && (f (i.toNat / 64)).toNat.testBit (i.toNat % 64)) := by
  unfold hasF
  obtain ⟨n, e, hn⟩ := hU (i.toNat / 64)
  congr 1
  rw [e, two_cast, Int.toNat_natCast]
  have h1 : ((n : Int) / ((2 ^ (i.toNat % 64) : Nat) : Int)) = ((n / 2 ^ (i.toNat % 64) : Nat) : Int) := rfl
  have h2 : n / 2 ^ (i.toNat % 64) < 2 ^ 64 := Nat.lt_of_le_of_lt (Nat.div_le_self _ _) hn
  rw [h1, show (1 : Int) = ((1 : Nat) : Int) from rfl, and_u _ 1 h2 (by decide), Nat.and_one_is_mod, Nat.testBit_eq_decide_div_mod_eq]
  generalize n / 2 ^ (i.toNat % 64) % 2 = m
  rw [Bool.eq_iff_iff, beq_iff_eq, decide_eq_true_eq]
  omega
theorem with_eq (f : Nat → Int) (hU : InU f) (i : Int) (h : 0 ≤ i ∧ i ≤ 4096) : withF f i = putF f (i.toNat / 64) (((f (i.toNat / 64)).toNat ||| 2 ^ (i.toNat % 64) : Nat) : Int) ∧ ((f (i.toNat / 64)).toNat ||| 2 ^ (i.toNat % 64)) < 2 ^ 64 := by
  obtain ⟨n, e, hn⟩ := hU (i.toNat / 64)
  have h2 := two_lt (i.toNat % 64) (Nat.mod_lt _ (by decide))
  unfold withF
  rw [if_pos h, e, two_cast, u64_wr _ (Int.natCast_nonneg _) (by exact_mod_cast h2), or_u _ _ hn h2, Int.toNat_natCast]
  exact ⟨rfl, Nat.or_lt_two_pow hn h2⟩
theorem zeroU : InU zeroF := fun _ => ⟨0, rfl, by decide⟩
theorem withU (f : Nat → Int) (hU : InU f) (i : Int) : InU (withF f i) := by
  by_cases h : 0 ≤ i ∧ i ≤ 4096
  · obtain ⟨e, hlt⟩ := with_eq f hU i h
    rw [e]
    intro j
    unfold putF
    split
    · exact ⟨_, rfl, hlt⟩
    · exact hU j
  · unfold withF; rw [if_neg h]; exact hU
theorem has_with (f : Nat → Int) (hU : InU f) (i j : Int) : hasF (withF f i) j = (hasF f j || (decide (0 ≤ i ∧ i ≤ 4096) && decide (i = j))) := by
  by_cases h : 0 ≤ i ∧ i ≤ 4096
  · rw [has_eq _ (withU f hU i), has_eq _ hU, decide_eq_true h, Bool.true_and]
    by_cases hj : 0 ≤ j ∧ j ≤ 4096
    · rw [decide_eq_true hj, Bool.true_and, Bool.true_and, (with_eq f hU i h).1]
      unfold putF
      by_cases hq : j.toNat / 64 = i.toNat / 64
      · rw [if_pos hq, Int.toNat_natCast, Nat.testBit_or, Nat.testBit_two_pow, hq]
        congr 1
        rw [decide_eq_decide]; omega
      · rw [if_neg hq, decide_eq_false (by omega), Bool.or_false]
    · rw [decide_eq_false hj, decide_eq_false (by omega)]; rfl
  · unfold withF; rw [if_neg h, decide_eq_false h, Bool.false_and, Bool.or_false]
theorem has_fold (l : List Int) (j : Int) : ∀ f, InU f → hasF (l.foldl withF f) j = (hasF f j || (decide (0 ≤ j ∧ j ≤ 4096) && decide (j ∈ l))) := by
  induction l with
  | nil => intro f _; simp
  | cons x l ih =>
    intro f h
    rw [List.foldl_cons, ih _ (withU f h x), has_with f h x j, Bool.or_assoc]
    congr 1
    rw [Bool.eq_iff_iff]
    simp only [Bool.or_eq_true, Bool.and_eq_true, decide_eq_true_eq, List.mem_cons]
    constructor
    · rintro (⟨h1, h2⟩ | ⟨h1, h2⟩)
      · exact ⟨by omega, .inl h2.symm⟩
      · exact ⟨h1, .inr h2⟩
    · rintro ⟨h1, h2 | h2⟩
      · exact .inl ⟨by omega, h2.symm⟩
      · exact .inr ⟨h1, h2⟩
theorem has_zero (j : Int) : hasF zeroF j = false := by
  rw [has_eq _ zeroU]
  simp [zeroF]
theorem has_of (l : List Int) (j : Int) : hasF (l.foldl withF zeroF) j = (decide (0 ≤ j ∧ j ≤ 4096) && decide (j ∈ l)) := by
  rw [has_fold l j _ zeroU, has_zero, Bool.false_or]
end Go.Proofs.Ytmojlhpkidbklaa.Ag
namespace Go.Proofs.Ytmojlhpkidbklaa.Pure
open Go.RowKit Go.Proofs.YtmojlhpkidbklaaW.PrintWords Go.Proofs.YtmojlhpkidbklaaW.PrintLast Go.Proofs.YtmojlhpkidbklaaW.PrintMore
theorem Ev.succ {α : Type} {g : Nat → Option α} {r : α} (h : Ev (fun k => g (k + 1)) r) : Ev g r := Ev.step (fun _ => rfl) h
theorem Ev.all {α : Type} {g : Nat → Option α} {r : α} (h : ∀ k, g k = some r) : Ev g r := ⟨0, fun k _ => h k⟩
theorem Ev.pos {α : Type} {g : Nat → Option α} {r : α} (h : ∀ k, g (k + 1) = some r) : Ev g r := ⟨1, fun k hk => by obtain ⟨j, rfl⟩ : ∃ j, k = j + 1 := ⟨k - 1, by omega⟩; exact h j⟩
theorem wrap_id {x : Int} (h : -9223372036854775808 ≤ x ∧ x ≤ 9223372036854775807) : wrap64 x = x := by unfold wrap64; omega
theorem mn_eq (a b : Int) : mn a b = min a b := by unfold mn; split <;> omega
theorem mx_eq (a b : Int) : mx a b = max a b := by unfold mx; split <;> omega
end Go.Proofs.Ytmojlhpkidbklaa.Pure
namespace Go.Proofs.Ytmojlhpkidbklaa.PAll
open Go.RowKit Go.Proofs.Ytmojlhpkidbklaa.Xw Go.Proofs.YtmojlhpkidbklaaW.PrintWords Go.Proofs.YtmojlhpkidbklaaW.PrintLast Go.Proofs.YtmojlhpkidbklaaW.PrintMore
attribute [local go_sem] max2_int min2_int max_two min_two max_three min_three max_four min_four   -- for this text's walks alone
set_option linter.unusedVariables false
set_option linter.unusedSimpArgs false
def retry_cut.f (a0 : Int) (a1 : Int) : Option (Int) := some (mn (mx a0 0) a1)
def retry_New.f (a0 : Int) : Option (Int × Int × Int) := (retry_cut.f a0 8).bind fun t102 => (some (t102, wrap64 (t102 + 1), t102))
def retry_Fine.f (a0_0 : Int) (a0_1 : Int) (a0_2 : Int) : Option (Int × Int × Int) := some (a0_0, a0_1, a0_0)
def retry_spent52.f (a0_0 a0_1 a0_2 : Int) : Option (Int × Int × Int × Bool) := if a0_2 ≤ 0 then some (a0_0, a0_1, a0_2, false) else some (a0_0, a0_1, (wrap64 (a0_2 - 1)), true)
def retry_spent51.f (a0_0 a0_1 a0_2 : Int) : Option (Int × Int × Int × Bool) := if a0_1 ≤ 0 then some (a0_0, a0_1, a0_2, false) else some (a0_0, (wrap64 (a0_1 - 1)), a0_2, true)
def retry_Again.f (a0_0 a0_1 a0_2 : Int) : Option (Int × Int × Int × Bool) := retry_spent52.f a0_0 a0_1 a0_2
def retry_Restart.f (a0_0 a0_1 a0_2 : Int) : Option (Int × Int × Int × Bool) := (retry_spent51.f a0_0 a0_1 a0_2).bind fun t => if t.2.2.2 = true then (retry_Fine.f t.1 t.2.1 t.2.2.1).bind (fun u => some (u.1, u.2.1, u.2.2, true)) else some (a0_0, a0_1, a0_2, false)
def spencelaw34_awake.f  : Option (Bool) := (retry_New.f 0).bind fun bt105 => ((retry_Again.f bt105.1 bt105.2.1 bt105.2.2).bind fun bt108 => ((retry_New.f 0).bind fun bt113 => ((retry_Restart.f bt113.1 bt113.2.1 bt113.2.2).bind fun bt116 => ((retry_Restart.f bt116.1 bt116.2.1 bt116.2.2.1).bind fun bt121 => (if bt108.2.2.2 = true then (some false) else (if bt116.2.2.2 = true then (some (!bt121.2.2.2)) else (some false)))))))
end Go.Proofs.Ytmojlhpkidbklaa.PAll
namespace Go.Proofs.Ytmojlhpkidbklaa.PAll
open Go.RowKit Go.Proofs.Ytmojlhpkidbklaa.Xw Go.Proofs.YtmojlhpkidbklaaW.PrintWords Go.Proofs.YtmojlhpkidbklaaW.PrintLast Go.Proofs.YtmojlhpkidbklaaW.PrintMore
attribute [local go_sem] max2_int min2_int max_two min_two max_three min_three max_four min_four   -- for this text's walks alone
set_option linter.unusedVariables false
set_option linter.unusedSimpArgs false
mutual
def spencelaw34_RetryEnds.l0 : Nat → Int → Int → Int → Int → Int → Option (Bool)
  | 0, _, _, _, _, _ => none
  | k + 1, x3, x5, x156000, x156001, x156002 => if x5 < x3 then ((retry_Again.f x156000 x156001 x156002).bind fun bt156 => (if bt156.2.2.2 = true then (spencelaw34_RetryEnds.l0 k x3 (wrap64 (x5 + 1)) bt156.1 bt156.2.1 bt156.2.2.1) else (some false))) else ((retry_Again.f x156000 x156001 x156002).bind fun bt161 => ((retry_Fine.f x156000 x156001 x156002).bind fun bt166 => ((retry_Again.f bt166.1 bt166.2.1 bt166.2.2).bind fun bt169 => (spencelaw34_RetryEnds.l1 k x3 bt161.2.2.2 bt169.2.2.2 0 x156000 x156001 x156002))))
def spencelaw34_RetryEnds.l1 : Nat → Int → Bool → Bool → Int → Int → Int → Int → Option (Bool)
  | 0, _, _, _, _, _, _, _ => none
  | k + 1, x3, x9, x11, x12, x156000, x156001, x156002 => if x12 ≤ x3 then ((retry_Restart.f x156000 x156001 x156002).bind fun bt174 => (if bt174.2.2.2 = true then (if bt174.2.2.1 = x3 then (spencelaw34_RetryEnds.l1 k x3 x9 x11 (wrap64 (x12 + 1)) bt174.1 bt174.2.1 bt174.2.2.1) else (some false)) else (some false))) else ((retry_Restart.f x156000 x156001 x156002).bind fun bt179 => (if x9 = true then (some false) else (if (x11 == (decide (x3 > 0))) = true then (some (!bt179.2.2.2)) else (some false))))
end
def spencelaw34_RetryEnds.f (k : Nat) (a0 : Int) : Option (Bool) := (spencelaw34_awake.f).bind fun t151 => (if t151 = true then ((retry_New.f a0).bind fun bt152 => (spencelaw34_RetryEnds.l0 k (mn (mx a0 0) 8) 0 bt152.1 bt152.2.1 bt152.2.2)) else (some false))
theorem spencelaw34_RetryEnds.mono_l : ∀ k, (∀ y0 y1 y2 y3 y4, LeO (spencelaw34_RetryEnds.l0 k y0 y1 y2 y3 y4) (spencelaw34_RetryEnds.l0 (k + 1) y0 y1 y2 y3 y4)) ∧ (∀ y0 y1 y2 y3 y4 y5 y6, LeO (spencelaw34_RetryEnds.l1 k y0 y1 y2 y3 y4 y5 y6) (spencelaw34_RetryEnds.l1 (k + 1) y0 y1 y2 y3 y4 y5 y6))
  | 0 => ⟨fun _ _ _ _ _ r h => by simp [spencelaw34_RetryEnds.l0] at h, fun _ _ _ _ _ _ _ r h => by simp [spencelaw34_RetryEnds.l1] at h⟩
  | k + 1 => by
    obtain ⟨ih0, ih1⟩ := spencelaw34_RetryEnds.mono_l k
    refine ⟨?_, ?_⟩
    · intro y0 y1 y2 y3 y4
      unfold spencelaw34_RetryEnds.l0
      repeat' first
      | (with_reducible exact ih0 _ _ _ _ _)
      | (with_reducible exact ih1 _ _ _ _ _ _ _)
      | (with_reducible exact LeO.refl _)
      | (with_reducible exact LeO.none _)
      | (with_reducible refine LeO.ite ?_ ?_)
      | (with_reducible refine LeO.bind ?_ (fun _ => ?_))
      | exact ih0 _ _ _ _ _
      | exact ih1 _ _ _ _ _ _ _
      | exact LeO.none _
      | refine LeO.ite ?_ ?_
      | refine LeO.bind ?_ (fun _ => ?_)
    · intro y0 y1 y2 y3 y4 y5 y6
      unfold spencelaw34_RetryEnds.l1
      repeat' first
      | (with_reducible exact ih0 _ _ _ _ _)
      | (with_reducible exact ih1 _ _ _ _ _ _ _)
      | (with_reducible exact LeO.refl _)
      | (with_reducible exact LeO.none _)
      | (with_reducible refine LeO.ite ?_ ?_)
      | (with_reducible refine LeO.bind ?_ (fun _ => ?_))
      | exact ih0 _ _ _ _ _
      | exact ih1 _ _ _ _ _ _ _
      | exact LeO.none _
      | refine LeO.ite ?_ ?_
      | refine LeO.bind ?_ (fun _ => ?_)
theorem spencelaw34_RetryEnds.mono : ∀ a0 k, LeO (spencelaw34_RetryEnds.f k a0) (spencelaw34_RetryEnds.f (k + 1) a0) := by
  intro a0 k
  obtain ⟨ih0, ih1⟩ := spencelaw34_RetryEnds.mono_l k
  unfold spencelaw34_RetryEnds.f
  repeat' first
      | (with_reducible exact ih0 _ _ _ _ _)
      | (with_reducible exact ih1 _ _ _ _ _ _ _)
      | (with_reducible exact LeO.refl _)
      | (with_reducible exact LeO.none _)
      | (with_reducible refine LeO.ite ?_ ?_)
      | (with_reducible refine LeO.bind ?_ (fun _ => ?_))
      | exact ih0 _ _ _ _ _
      | exact ih1 _ _ _ _ _ _ _
      | exact LeO.none _
      | refine LeO.ite ?_ ?_
      | refine LeO.bind ?_ (fun _ => ?_)
def cuts_Right.f (a0 : Int) (a1 : Int) : Option (Bool) := if a0 ≥ 0 then (if a0 ≤ 4096 then (if a1 ≥ 1 then (some (decide (a1 ≤ 64))) else (some false)) else (some false)) else (some false)
set_option maxHeartbeats 8000000 in
set_option maxRecDepth 100000 in
theorem cuts_Right.calls (a0 : Int) (a1 : Int) (r : Bool) (w : World) (h : cuts_Right.f a0 a1 = some r) :
    Calls Try.prog 40 #[.int .i64 a0, .int .i64 a1] w fun e w' => e = .returned (.bool r) ∧ Drawn0 w w' := by
  have H : (if a0 ≥ 0 then (if a0 ≤ 4096 then (if a1 ≥ 1 then (some (decide (a1 ≤ 64))) else (some false)) else (some false)) else (some false)) = some r := h
  clear h
  by_cases c3 : a0 ≥ 0
  · rw [if_pos c3] at H
    have c3b0 : decide (0 ≤ a0) = true := decide_eq_true c3
    clear c3
    by_cases c4 : a0 ≤ 4096
    · rw [if_pos c4] at H
      have c4b0 : decide (a0 ≤ 4096) = true := decide_eq_true c4
      clear c4
      by_cases c5 : a1 ≥ 1
      · rw [if_pos c5] at H
        have c5b0 : decide (1 ≤ a1) = true := decide_eq_true c5
        clear c5
        obtain rfl := Option.some.inj H
        go_enter Try.func40, Try.ntmps40
        go_wp2
        go_ret
        exact ⟨by first | rfl | (simp; done) | (simp [*]; done) | exact ne_empty _ | exact eq_empty _, by repeat (first | exact Drawn0.refl _ | apply Drawn0.step)⟩
      · rw [if_neg c5] at H
        have c5b0 : decide (1 ≤ a1) = false := decide_eq_false c5
        clear c5
        obtain rfl := Option.some.inj H
        go_enter Try.func40, Try.ntmps40
        go_wp2
        go_ret
        exact ⟨by first | rfl | (simp; done) | (simp [*]; done) | exact ne_empty _ | exact eq_empty _, by repeat (first | exact Drawn0.refl _ | apply Drawn0.step)⟩
    · rw [if_neg c4] at H
      have c4b0 : decide (a0 ≤ 4096) = false := decide_eq_false c4
      clear c4
      obtain rfl := Option.some.inj H
      go_enter Try.func40, Try.ntmps40
      go_wp2
      go_ret
      exact ⟨by first | rfl | (simp; done) | (simp [*]; done) | exact ne_empty _ | exact eq_empty _, by repeat (first | exact Drawn0.refl _ | apply Drawn0.step)⟩
  · rw [if_neg c3] at H
    have c3b0 : decide (0 ≤ a0) = false := decide_eq_false c3
    clear c3
    obtain rfl := Option.some.inj H
    go_enter Try.func40, Try.ntmps40
    go_wp2
    go_ret
    exact ⟨by first | rfl | (simp; done) | (simp [*]; done) | exact ne_empty _ | exact eq_empty _, by repeat (first | exact Drawn0.refl _ | apply Drawn0.step)⟩
def cuts_Count.f (a0 : Int) (a1 : Int) : Option (Int) := (cuts_Right.f a0 a1).bind fun t184 => (if t184 = true then (if a1 = 0 then (none) else (some (wrap64 (Int.tdiv (wrap64 ((wrap64 (a0 + a1)) - 1)) a1)))) else (some 0))
set_option maxHeartbeats 8000000 in
set_option maxRecDepth 100000 in
theorem cuts_Count.calls (a0 : Int) (a1 : Int) (r : Int) (w : World) (h : cuts_Count.f a0 a1 = some r) :
    Calls Try.prog 20 #[.int .i64 a0, .int .i64 a1] w fun e w' => e = .returned (.int .i64 r) ∧ Drawn0 w w' := by
  have H : ((cuts_Right.f a0 a1).bind fun t184 => (if t184 = true then (if a1 = 0 then (none) else (some (wrap64 (Int.tdiv (wrap64 ((wrap64 (a0 + a1)) - 1)) a1)))) else (some 0))) = some r := h
  clear h
  replace H := Option.bind_eq_some_iff.mp H
  obtain ⟨t184, A30, H⟩ := H
  replace H : (if t184 = true then (if a1 = 0 then (none) else (some (wrap64 (Int.tdiv (wrap64 ((wrap64 (a0 + a1)) - 1)) a1)))) else (some 0)) = some r := H
  have A3 := Aside0.mk A30
  clear A30
  by_cases c4 : t184 = true
  · subst c4
    have H1 : (if a1 = 0 then (none) else (some (wrap64 (Int.tdiv (wrap64 ((wrap64 (a0 + a1)) - 1)) a1)))) = some r := by rw [if_pos rfl] at H; exact H
    clear H
    have H := H1
    clear H1
    by_cases c5 : a1 = 0
    · rw [if_pos c5] at H
      exact absurd H (by simp)
    · rw [if_neg c5] at H
      have c5b0 : (a1 == 0) = false := beq_eq_false_iff_ne.mpr c5
      have c5b1 : (a1 != 0) = true := bne_iff_ne.mpr c5
      obtain rfl := Option.some.inj H
      go_enter Try.func20, Try.ntmps20
      go_wp2_with (first | ((with_reducible refine gate_callee (f := 40) rfl ?_); refine goesL_ (some 7) rfl rfl Try.func40 (by kernel_rfl) rfl #[.int .i64 a0, .int .i64 a1] rfl (by (try simp only [List.map_toArray, List.map_cons, List.map_nil]); first | done | rfl | (simp only [List.length_drop, List.length_take]; rfl)) ?_; (with_reducible refine (cuts_Right.calls a0 a1 true _ A3.out).mono ?_); rintro e w' ⟨rfl, ⟨nd, rfl⟩⟩; refine ⟨_, rfl, ?_⟩))
      go_ret
      exact ⟨by first | rfl | (simp; done) | (simp [*]; done) | exact ne_empty _ | exact eq_empty _, by repeat (first | exact Drawn0.refl _ | apply Drawn0.step)⟩
  · replace c4 := Bool.eq_false_iff.mpr c4
    subst c4
    have H1 : (some 0) = some r := by rw [if_neg (show ¬ (false = true) by decide)] at H; exact H
    clear H
    have H := H1
    clear H1
    obtain rfl := Option.some.inj H
    go_enter Try.func20, Try.ntmps20
    go_wp2_with (first | ((with_reducible refine gate_callee (f := 40) rfl ?_); refine goesL_ (some 7) rfl rfl Try.func40 (by kernel_rfl) rfl #[.int .i64 a0, .int .i64 a1] rfl (by (try simp only [List.map_toArray, List.map_cons, List.map_nil]); first | done | rfl | (simp only [List.length_drop, List.length_take]; rfl)) ?_; (with_reducible refine (cuts_Right.calls a0 a1 false _ A3.out).mono ?_); rintro e w' ⟨rfl, ⟨nd, rfl⟩⟩; refine ⟨_, rfl, ?_⟩))
    go_ret
    exact ⟨by first | rfl | (simp; done) | (simp [*]; done) | exact ne_empty _ | exact eq_empty _, by repeat (first | exact Drawn0.refl _ | apply Drawn0.step)⟩
def cuts_Bounds.f (a0 : Int) (a1 : Int) (a2 : Int) : Option (Int × Int × Bool) := if a0 < 0 then (some (0, 0, false)) else ((cuts_Count.f a1 a2).bind fun t186 => (if a0 ≥ t186 then (some (0, 0, false)) else (some (wrap64 (a0 * a2), mn (wrap64 ((wrap64 (a0 + 1)) * a2)) a1, true))))
end Go.Proofs.Ytmojlhpkidbklaa.PAll
namespace Go.Proofs.Ytmojlhpkidbklaa.PAll
open Go.RowKit Go.Proofs.Ytmojlhpkidbklaa.Xw Go.Proofs.YtmojlhpkidbklaaW.PrintWords Go.Proofs.YtmojlhpkidbklaaW.PrintLast Go.Proofs.YtmojlhpkidbklaaW.PrintMore
attribute [local go_sem] max2_int min2_int max_two min_two max_three min_three max_four min_four   -- for this text's walks alone
set_option linter.unusedVariables false
set_option linter.unusedSimpArgs false
theorem eqA35 (d : Nat) (w : World) (x0 y0 : Int) (x1 y1 : Int) :
    (Op.equalIn (d + 2) 35 (.agg #[.int .i64 x0, .int .i64 x1]) (.agg #[.int .i64 y0, .int .i64 y1])).run Try.prog w = .ok (x0 == y0 && (x1 == y1)) w := by
  refine eqA_of Try.underlying35 (by kernel_rfl) ?_
  refine eqf_cons (by rfl) (by go_simp; rfl) (by go_simp; rfl) (by go_simp) ?_
  exact eqf_last (by rfl) (by go_simp; rfl) (by go_simp; rfl) (by go_simp)
end Go.Proofs.Ytmojlhpkidbklaa.PAll
namespace Go.Proofs.Ytmojlhpkidbklaa.PAll
open Go.RowKit Go.Proofs.Ytmojlhpkidbklaa.Xw Go.Proofs.YtmojlhpkidbklaaW.PrintWords Go.Proofs.YtmojlhpkidbklaaW.PrintLast Go.Proofs.YtmojlhpkidbklaaW.PrintMore
attribute [local go_sem] max2_int min2_int max_two min_two max_three min_three max_four min_four   -- for this text's walks alone
set_option linter.unusedVariables false
set_option linter.unusedSimpArgs false
attribute [local go_sem high] eqA35
def spencelaw10_awake.f  : Option (Bool) := (cuts_Bounds.f 2 10 4).bind fun bt187 => (if bt187.2.2 = true then (some (bt187.1 == 8 && (bt187.2.1 == 10))) else (some false))
def spenceref04_Cuts.f (a0 : Int) (a1 : Int) : Option (Bool) := if a0 ≥ 0 then (if a0 ≤ 4096 then (if a1 ≥ 1 then (some (decide (a1 ≤ 64))) else (some false)) else (some false)) else (some false)
def span_Right.f (a0_0 : Int) (a0_1 : Int) : Option (Bool) := if a0_0 ≥ 0 then (if a0_0 < a0_1 then (some (decide (a0_1 ≤ 4611686018427387903))) else (some false)) else (some false)
def span_Len.f (a0_0 : Int) (a0_1 : Int) : Option (Int) := (span_Right.f a0_0 a0_1).bind fun t193 => (if t193 = true then (some (wrap64 (a0_1 - a0_0))) else (some 0))
def cuts_Last.f (a0 : Int) (a1 : Int) : Option (Int) := (cuts_Count.f a0 a1).bind fun t194 => ((cuts_Bounds.f (wrap64 (t194 - 1)) a0 a1).bind fun bt195 => ((span_Len.f bt195.1 bt195.2.1).bind fun t199 => (some t199)))
end Go.Proofs.Ytmojlhpkidbklaa.PAll
namespace Go.Proofs.Ytmojlhpkidbklaa.PAll
open Go.RowKit Go.Proofs.Ytmojlhpkidbklaa.Xw Go.Proofs.YtmojlhpkidbklaaW.PrintWords Go.Proofs.YtmojlhpkidbklaaW.PrintLast Go.Proofs.YtmojlhpkidbklaaW.PrintMore
attribute [local go_sem] max2_int min2_int max_two min_two max_three min_three max_four min_four   -- for this text's walks alone
set_option linter.unusedVariables false
set_option linter.unusedSimpArgs false
theorem eqA86 (d : Nat) (w : World) (x0 y0 : Int) (x1 y1 : Int) (x2 y2 : Bool) :
    (Op.equalIn (d + 2) 86 (.agg #[.int .i64 x0, .int .i64 x1, .bool x2]) (.agg #[.int .i64 y0, .int .i64 y1, .bool y2])).run Try.prog w = .ok (x0 == y0 && (x1 == y1 && (x2 == y2))) w := by
  refine eqA_of Try.underlying86 (by kernel_rfl) ?_
  refine eqf_cons (by rfl) (by go_simp; rfl) (by go_simp; rfl) (by go_simp) ?_
  refine eqf_cons (by rfl) (by go_simp; rfl) (by go_simp; rfl) (by go_simp) ?_
  exact eqf_last (by rfl) (by go_simp; rfl) (by go_simp; rfl) (by go_simp)
end Go.Proofs.Ytmojlhpkidbklaa.PAll
namespace Go.Proofs.Ytmojlhpkidbklaa.PAll
open Go.Proofs.Ytmojlhpkidbklaa.Ag (row_load row_store ag_gate ag_gate_st row_store2)
open Go.RowKit Go.Proofs.Ytmojlhpkidbklaa.Xw Go.Proofs.YtmojlhpkidbklaaW.PrintWords Go.Proofs.YtmojlhpkidbklaaW.PrintLast Go.Proofs.YtmojlhpkidbklaaW.PrintMore
attribute [local go_sem] max2_int min2_int max_two min_two max_three min_three max_four min_four   -- for this text's walks alone
attribute [local go_sem ↓] Ag.ldMap_eq
set_option linter.unusedVariables false
set_option linter.unusedSimpArgs false
attribute [local go_sem high] eqA86
def bitmap_may.f (a0 : Int) : Option (Bool) := if a0 ≥ 0 then (some (decide (a0 ≤ 4096))) else (some false)
def bitmap_Map_Has.f (a0_0 : Nat → Int) (a1 : Int) : Option Bool := some (Ag.hasF a0_0 a1)
theorem bitmap_Map_Has.calls (a0_0 : Nat → Int) (a1 : Int) (r : Bool) (w : World) (h : bitmap_Map_Has.f a0_0 a1 = some r) :
    Calls Try.prog 31 #[.agg (Ag.agC .u64 65 a0_0), .int .i64 a1] w fun e w' => e = .returned (.bool r) ∧ Below w.heap.size w w' := by
  obtain rfl := Option.some.inj h
  exact Ag.has_calls a0_0 a1 w
def api_Run.f (l0 : List (S86)) : Option ((List (S86))) := if 0 ≤ (l0.length : Int) then (if (l0.length : Int) ≤ (l0.length : Int) then (some (l0.take ((l0.length : Int) : Int).toNat)) else (none)) else (none)
def bitmap_Runs.l0 : Nat → Int → List (S86) → Int → (Nat → Int) → Option ((List (S86)))
  | 0, _, _, _, _ => none
  | k + 1, x2, x7, x8, x221000 => if x8 < x2 then ((bitmap_Map_Has.f x221000 x8).bind fun t221 => (if (x7.length : Int) > 0 then (if 0 ≤ (wrap64 ((x7.length : Int) - 1)) then (if (wrap64 ((x7.length : Int) - 1)) < (x7.length : Int) then (if (((rd_T86 x7 (wrap64 ((x7.length : Int) - 1))).f2) == t221) = true then (bitmap_Runs.l0 k x2 (x7.set ((wrap64 ((x7.length : Int) - 1)) : Int).toNat (⟨(rd_T86 x7 (wrap64 ((x7.length : Int) - 1))).f0, wrap64 (((rd_T86 x7 (wrap64 ((x7.length : Int) - 1))).f1) + 1), (rd_T86 x7 (wrap64 ((x7.length : Int) - 1))).f2⟩ : S86)) (wrap64 (x8 + 1)) x221000) else (if x7.length < 5864062014805 then (bitmap_Runs.l0 k x2 (x7 ++ [(⟨x8, wrap64 (x8 + 1), t221⟩ : S86)]) (wrap64 (x8 + 1)) x221000) else (none))) else (none)) else (none)) else (if x7.length < 5864062014805 then (bitmap_Runs.l0 k x2 (x7 ++ [(⟨x8, wrap64 (x8 + 1), t221⟩ : S86)]) (wrap64 (x8 + 1)) x221000) else (none)))) else ((api_Run.f x7).bind fun t231 => (some t231))
def bitmap_Runs.f (k : Nat) (a0_0 : (Nat → Int)) (a1 : Int) (a2 : Int) : Option ((List (S86))) := bitmap_Runs.l0 k (mn a2 4097) ([] : List (S86)) (mx a1 0) a0_0
theorem bitmap_Runs.mono_l : ∀ k, (∀ y0 y1 y2 y3, LeO (bitmap_Runs.l0 k y0 y1 y2 y3) (bitmap_Runs.l0 (k + 1) y0 y1 y2 y3))
  | 0 => fun _ _ _ _ r h => by simp [bitmap_Runs.l0] at h
  | k + 1 => by
    have ih0 := bitmap_Runs.mono_l k
    · intro y0 y1 y2 y3
      unfold bitmap_Runs.l0
      repeat' first
      | (with_reducible exact ih0 _ _ _ _)
      | (with_reducible exact LeO.refl _)
      | (with_reducible exact LeO.none _)
      | (with_reducible refine LeO.ite ?_ ?_)
      | (with_reducible refine LeO.bind ?_ (fun _ => ?_))
      | exact ih0 _ _ _ _
      | exact LeO.none _
      | refine LeO.ite ?_ ?_
      | refine LeO.bind ?_ (fun _ => ?_)
theorem bitmap_Runs.mono : ∀ a0 a1 a2 k, LeO (bitmap_Runs.f k a0 a1 a2) (bitmap_Runs.f (k + 1) a0 a1 a2) := by
  intro a0 a1 a2 k
  have ih0 := bitmap_Runs.mono_l k
  unfold bitmap_Runs.f
  repeat' first
      | (with_reducible exact ih0 _ _ _ _)
      | (with_reducible exact LeO.refl _)
      | (with_reducible exact LeO.none _)
      | (with_reducible refine LeO.ite ?_ ?_)
      | (with_reducible refine LeO.bind ?_ (fun _ => ?_))
      | exact ih0 _ _ _ _
      | exact LeO.none _
      | refine LeO.ite ?_ ?_
      | refine LeO.bind ?_ (fun _ => ?_)
def bitmap_Map_With.f (a0_0 : Nat → Int) (a1 : Int) : Option (Nat → Int) := some (Ag.withF a0_0 a1)
def bitmap_Of.f (l0 : List Int) : Option (Nat → Int) := some (l0.foldl Ag.withF Ag.zeroF)
theorem bitmap_Of.calls (A0 : Option Addr) (c0 : Nat) (l0 : List Int) (r : Nat → Int) (w : World) (hr0 : Kd.C (Kd.int .i64) w A0 l0.length l0) (hc0 : l0.length ≤ c0) (h : bitmap_Of.f l0 = some r) :
    Calls Try.prog 26 #[.slice A0 l0.length c0] w fun e w' => e = .returned (.agg (Ag.agC .u64 65 r)) ∧ Below w.heap.size w w' := by
  obtain rfl := Option.some.inj h
  exact Ag.of_calls A0 c0 l0 w hr0 hc0
def spencelaw18_awake.f (k : Nat)  : Option (Bool) := (bitmap_Of.f (([1, 2] : List Int))).bind fun t237 => ((bitmap_Runs.f k t237 0 4).bind fun t238 => (if (t238.length : Int) = 3 then (if 1 < (t238.length : Int) then (if (rd_T86 t238 1).f2 = true then (if ((rd_T86 t238 1).f0) = 1 then (some (((rd_T86 t238 1).f1) == 3)) else (some false)) else (some false)) else (none)) else (some false)))
theorem spencelaw18_awake.mono : ∀ k, LeO (spencelaw18_awake.f k ) (spencelaw18_awake.f (k + 1) ) := by
  intro  k
  unfold spencelaw18_awake.f
  repeat' first
      | (with_reducible exact bitmap_Runs.mono _ _ _ _)
      | (with_reducible exact LeO.refl _)
      | (with_reducible exact LeO.none _)
      | (with_reducible refine LeO.ite ?_ ?_)
      | (with_reducible refine LeO.bind ?_ (fun _ => ?_))
      | exact bitmap_Runs.mono _ _ _ _
      | exact LeO.none _
      | refine LeO.ite ?_ ?_
      | refine LeO.bind ?_ (fun _ => ?_)
def spenceref24_Runs.l0 : Nat → List (S86) → List (S86) → Int → Int → Option (Bool)
  | 0, _, _, _, _ => none
  | k + 1, x0, x1, x12, x13 => if x13 < x12 then (if 0 ≤ x13 then (if x13 < (x0.length : Int) then (if x13 < (x1.length : Int) then (if (!(((rd_T86 x0 x13).f0) == ((rd_T86 x1 x13).f0)) || (!(((rd_T86 x0 x13).f1) == ((rd_T86 x1 x13).f1)) || (!(((rd_T86 x0 x13).f2) == ((rd_T86 x1 x13).f2))))) = true then (some false) else (spenceref24_Runs.l0 k x0 x1 x12 (wrap64 (x13 + 1)))) else (none)) else (none)) else (none)) else (some true)
def spenceref24_Runs.f (k : Nat) (l0 : List (S86)) (l1 : List (S86)) : Option (Bool) := if (l0.length : Int) = (l1.length : Int) then (spenceref24_Runs.l0 k l0 l1 (l0.length : Int) 0) else (some false)
theorem spenceref24_Runs.mono_l : ∀ k, (∀ y0 y1 y2 y3, LeO (spenceref24_Runs.l0 k y0 y1 y2 y3) (spenceref24_Runs.l0 (k + 1) y0 y1 y2 y3))
  | 0 => fun _ _ _ _ r h => by simp [spenceref24_Runs.l0] at h
  | k + 1 => by
    have ih0 := spenceref24_Runs.mono_l k
    · intro y0 y1 y2 y3
      unfold spenceref24_Runs.l0
      repeat' first
      | (with_reducible exact ih0 _ _ _ _)
      | (with_reducible exact LeO.refl _)
      | (with_reducible exact LeO.none _)
      | (with_reducible refine LeO.ite ?_ ?_)
      | (with_reducible refine LeO.bind ?_ (fun _ => ?_))
      | exact ih0 _ _ _ _
      | exact LeO.none _
      | refine LeO.ite ?_ ?_
      | refine LeO.bind ?_ (fun _ => ?_)
theorem spenceref24_Runs.mono : ∀ a0 a1 k, LeO (spenceref24_Runs.f k a0 a1) (spenceref24_Runs.f (k + 1) a0 a1) := by
  intro a0 a1 k
  have ih0 := spenceref24_Runs.mono_l k
  unfold spenceref24_Runs.f
  repeat' first
      | (with_reducible exact ih0 _ _ _ _)
      | (with_reducible exact LeO.refl _)
      | (with_reducible exact LeO.none _)
      | (with_reducible refine LeO.ite ?_ ?_)
      | (with_reducible refine LeO.bind ?_ (fun _ => ?_))
      | exact ih0 _ _ _ _
      | exact LeO.none _
      | refine LeO.ite ?_ ?_
      | refine LeO.bind ?_ (fun _ => ?_)
end Go.Proofs.Ytmojlhpkidbklaa.PAll
namespace Go.Proofs.Ytmojlhpkidbklaa.PAll
open Go.RowKit Go.Proofs.Ytmojlhpkidbklaa.Xw Go.Proofs.YtmojlhpkidbklaaW.PrintWords Go.Proofs.YtmojlhpkidbklaaW.PrintLast Go.Proofs.YtmojlhpkidbklaaW.PrintMore
attribute [local go_sem] max2_int min2_int max_two min_two max_three min_three max_four min_four   -- for this text's walks alone
set_option linter.unusedVariables false
set_option linter.unusedSimpArgs false
def spenceref01_In.l0 : Nat → Int → List Int → Int → Int → Option (Bool)
  | 0, _, _, _, _ => none
  | k + 1, x1, x7, x8, x9 => if x9 < x8 then (if 0 ≤ x9 then (if x9 < (x7.length : Int) then (if (rd x7 x9) = x1 then (some true) else (spenceref01_In.l0 k x1 x7 x8 (wrap64 (x9 + 1)))) else (none)) else (none)) else (some false)
def spenceref01_In.f (k : Nat) (l0 : List Int) (a1 : Int) : Option (Bool) := spenceref01_In.l0 k a1 l0 (l0.length : Int) 0
theorem spenceref01_In.mono_l : ∀ k, (∀ y0 y1 y2 y3, LeO (spenceref01_In.l0 k y0 y1 y2 y3) (spenceref01_In.l0 (k + 1) y0 y1 y2 y3))
  | 0 => fun _ _ _ _ r h => by simp [spenceref01_In.l0] at h
  | k + 1 => by
    have ih0 := spenceref01_In.mono_l k
    · intro y0 y1 y2 y3
      unfold spenceref01_In.l0
      repeat' first
      | (with_reducible exact ih0 _ _ _ _)
      | (with_reducible exact LeO.refl _)
      | (with_reducible exact LeO.none _)
      | (with_reducible refine LeO.ite ?_ ?_)
      | (with_reducible refine LeO.bind ?_ (fun _ => ?_))
      | exact ih0 _ _ _ _
      | exact LeO.none _
      | refine LeO.ite ?_ ?_
      | refine LeO.bind ?_ (fun _ => ?_)
theorem spenceref01_In.mono : ∀ a0 a1 k, LeO (spenceref01_In.f k a0 a1) (spenceref01_In.f (k + 1) a0 a1) := by
  intro a0 a1 k
  have ih0 := spenceref01_In.mono_l k
  unfold spenceref01_In.f
  repeat' first
      | (with_reducible exact ih0 _ _ _ _)
      | (with_reducible exact LeO.refl _)
      | (with_reducible exact LeO.none _)
      | (with_reducible refine LeO.ite ?_ ?_)
      | (with_reducible refine LeO.bind ?_ (fun _ => ?_))
      | exact ih0 _ _ _ _
      | exact LeO.none _
      | refine LeO.ite ?_ ?_
      | refine LeO.bind ?_ (fun _ => ?_)
mutual
def spenceref24_Sorted.l0 : Nat → List Int → List Int → Int → Option (List Int)
  | 0, _, _, _ => none
  | k + 1, x0, x3, x4 => if x4 ≤ 4096 then (spenceref24_Sorted.j1 k x0 x3 x4 (decide ((x3.length : Int) < (x0.length : Int)))) else (spenceref24_Sorted.j1 k x0 x3 x4 false)
def spenceref24_Sorted.j1 : Nat → List Int → List Int → Int → Bool → Option (List Int)
  | 0, _, _, _, _ => none
  | k + 1, x0, x3, x4, x13 => if x13 = true then ((spenceref01_In.f k x0 x4).bind fun t247 => (if t247 = true then (if x3.length < 17592186044416 then (spenceref24_Sorted.l0 k x0 (x3 ++ [x4]) (wrap64 (x4 + 1))) else (none)) else (spenceref24_Sorted.l0 k x0 x3 (wrap64 (x4 + 1))))) else (some x3)
end
def spenceref24_Sorted.f (k : Nat) (l0 : List Int) : Option (List Int) := spenceref24_Sorted.l0 k l0 ([] : List Int) 0
theorem spenceref24_Sorted.mono_l : ∀ k, (∀ y0 y1 y2, LeO (spenceref24_Sorted.l0 k y0 y1 y2) (spenceref24_Sorted.l0 (k + 1) y0 y1 y2)) ∧ (∀ y0 y1 y2 y3, LeO (spenceref24_Sorted.j1 k y0 y1 y2 y3) (spenceref24_Sorted.j1 (k + 1) y0 y1 y2 y3))
  | 0 => ⟨fun _ _ _ r h => by simp [spenceref24_Sorted.l0] at h, fun _ _ _ _ r h => by simp [spenceref24_Sorted.j1] at h⟩
  | k + 1 => by
    obtain ⟨ih0, ih1⟩ := spenceref24_Sorted.mono_l k
    refine ⟨?_, ?_⟩
    · intro y0 y1 y2
      unfold spenceref24_Sorted.l0
      repeat' first
      | (with_reducible exact ih0 _ _ _)
      | (with_reducible exact ih1 _ _ _ _)
      | (with_reducible exact spenceref01_In.mono _ _ _)
      | (with_reducible exact LeO.refl _)
      | (with_reducible exact LeO.none _)
      | (with_reducible refine LeO.ite ?_ ?_)
      | (with_reducible refine LeO.bind ?_ (fun _ => ?_))
      | exact ih0 _ _ _
      | exact ih1 _ _ _ _
      | exact spenceref01_In.mono _ _ _
      | exact LeO.none _
      | refine LeO.ite ?_ ?_
      | refine LeO.bind ?_ (fun _ => ?_)
    · intro y0 y1 y2 y3
      unfold spenceref24_Sorted.j1
      repeat' first
      | (with_reducible exact ih0 _ _ _)
      | (with_reducible exact ih1 _ _ _ _)
      | (with_reducible exact spenceref01_In.mono _ _ _)
      | (with_reducible exact LeO.refl _)
      | (with_reducible exact LeO.none _)
      | (with_reducible refine LeO.ite ?_ ?_)
      | (with_reducible refine LeO.bind ?_ (fun _ => ?_))
      | exact ih0 _ _ _
      | exact ih1 _ _ _ _
      | exact spenceref01_In.mono _ _ _
      | exact LeO.none _
      | refine LeO.ite ?_ ?_
      | refine LeO.bind ?_ (fun _ => ?_)
theorem spenceref24_Sorted.mono : ∀ a0 k, LeO (spenceref24_Sorted.f k a0) (spenceref24_Sorted.f (k + 1) a0) := by
  intro a0 k
  obtain ⟨ih0, ih1⟩ := spenceref24_Sorted.mono_l k
  unfold spenceref24_Sorted.f
  repeat' first
      | (with_reducible exact ih0 _ _ _)
      | (with_reducible exact ih1 _ _ _ _)
      | (with_reducible exact spenceref01_In.mono _ _ _)
      | (with_reducible exact LeO.refl _)
      | (with_reducible exact LeO.none _)
      | (with_reducible refine LeO.ite ?_ ?_)
      | (with_reducible refine LeO.bind ?_ (fun _ => ?_))
      | exact ih0 _ _ _
      | exact ih1 _ _ _ _
      | exact spenceref01_In.mono _ _ _
      | exact LeO.none _
      | refine LeO.ite ?_ ?_
      | refine LeO.bind ?_ (fun _ => ?_)
def spenceref24_Split.l0 : Nat → List Int → List (S86) → List Int → Int → Int → Option ((List (S86)))
  | 0, _, _, _, _, _ => none
  | k + 1, x1, x5, x11, x12, x13 => if x13 < x12 then (if 0 ≤ x13 then (if x13 < (x11.length : Int) then ((spenceref01_In.f k x1 (rd x11 x13)).bind fun t255 => (if (x5.length : Int) > 0 then (if 0 ≤ (wrap64 ((x5.length : Int) - 1)) then (if (wrap64 ((x5.length : Int) - 1)) < (x5.length : Int) then (if ((rd_T86 x5 (wrap64 ((x5.length : Int) - 1))).f1) = (rd x11 x13) then (if (((rd_T86 x5 (wrap64 ((x5.length : Int) - 1))).f2) == t255) = true then (spenceref24_Split.l0 k x1 (x5.set ((wrap64 ((x5.length : Int) - 1)) : Int).toNat (⟨(rd_T86 x5 (wrap64 ((x5.length : Int) - 1))).f0, wrap64 ((rd x11 x13) + 1), (rd_T86 x5 (wrap64 ((x5.length : Int) - 1))).f2⟩ : S86)) x11 x12 (wrap64 (x13 + 1))) else (if x5.length < 5864062014805 then (spenceref24_Split.l0 k x1 (x5 ++ [(⟨rd x11 x13, wrap64 ((rd x11 x13) + 1), t255⟩ : S86)]) x11 x12 (wrap64 (x13 + 1))) else (none))) else (if x5.length < 5864062014805 then (spenceref24_Split.l0 k x1 (x5 ++ [(⟨rd x11 x13, wrap64 ((rd x11 x13) + 1), t255⟩ : S86)]) x11 x12 (wrap64 (x13 + 1))) else (none))) else (none)) else (none)) else (if x5.length < 5864062014805 then (spenceref24_Split.l0 k x1 (x5 ++ [(⟨rd x11 x13, wrap64 ((rd x11 x13) + 1), t255⟩ : S86)]) x11 x12 (wrap64 (x13 + 1))) else (none)))) else (none)) else (none)) else (some x5)
def spenceref24_Split.f (k : Nat) (l0 : List Int) (l1 : List Int) : Option ((List (S86))) := (spenceref24_Sorted.f k l0).bind fun t251 => (spenceref24_Split.l0 k l1 ([] : List (S86)) t251 (t251.length : Int) 0)
theorem spenceref24_Split.mono_l : ∀ k, (∀ y0 y1 y2 y3 y4, LeO (spenceref24_Split.l0 k y0 y1 y2 y3 y4) (spenceref24_Split.l0 (k + 1) y0 y1 y2 y3 y4))
  | 0 => fun _ _ _ _ _ r h => by simp [spenceref24_Split.l0] at h
  | k + 1 => by
    have ih0 := spenceref24_Split.mono_l k
    · intro y0 y1 y2 y3 y4
      unfold spenceref24_Split.l0
      repeat' first
      | (with_reducible exact ih0 _ _ _ _ _)
      | (with_reducible exact spenceref01_In.mono _ _ _)
      | (with_reducible exact spenceref24_Sorted.mono _ _)
      | (with_reducible exact LeO.refl _)
      | (with_reducible exact LeO.none _)
      | (with_reducible refine LeO.ite ?_ ?_)
      | (with_reducible refine LeO.bind ?_ (fun _ => ?_))
      | exact ih0 _ _ _ _ _
      | exact spenceref01_In.mono _ _ _
      | exact spenceref24_Sorted.mono _ _
      | exact LeO.none _
      | refine LeO.ite ?_ ?_
      | refine LeO.bind ?_ (fun _ => ?_)
theorem spenceref24_Split.mono : ∀ a0 a1 k, LeO (spenceref24_Split.f k a0 a1) (spenceref24_Split.f (k + 1) a0 a1) := by
  intro a0 a1 k
  have ih0 := spenceref24_Split.mono_l k
  unfold spenceref24_Split.f
  repeat' first
      | (with_reducible exact ih0 _ _ _ _ _)
      | (with_reducible exact spenceref01_In.mono _ _ _)
      | (with_reducible exact spenceref24_Sorted.mono _ _)
      | (with_reducible exact LeO.refl _)
      | (with_reducible exact LeO.none _)
      | (with_reducible refine LeO.ite ?_ ?_)
      | (with_reducible refine LeO.bind ?_ (fun _ => ?_))
      | exact ih0 _ _ _ _ _
      | exact spenceref01_In.mono _ _ _
      | exact spenceref24_Sorted.mono _ _
      | exact LeO.none _
      | refine LeO.ite ?_ ?_
      | refine LeO.bind ?_ (fun _ => ?_)
end Go.Proofs.Ytmojlhpkidbklaa.PAll
namespace Go.Proofs.Ytmojlhpkidbklaa.PAll
open Go.Proofs.Ytmojlhpkidbklaa.Ag (row_load row_store ag_gate ag_gate_st row_store2)
open Go.RowKit Go.Proofs.Ytmojlhpkidbklaa.Xw Go.Proofs.YtmojlhpkidbklaaW.PrintWords Go.Proofs.YtmojlhpkidbklaaW.PrintLast Go.Proofs.YtmojlhpkidbklaaW.PrintMore
attribute [local go_sem] max2_int min2_int max_two min_two max_three min_three max_four min_four   -- for this text's walks alone
attribute [local go_sem ↓] Ag.ldMap_eq
set_option linter.unusedVariables false
set_option linter.unusedSimpArgs false
mutual
def spencelaw18_BitmapRuns.j0 : Nat → List Int → Int → Int → Bool → Option (Bool)
  | 0, _, _, _, _ => none
  | k + 1, x0, x1, x2, x22 => if x22 = true then (some true) else ((bitmap_Of.f x0).bind fun t269 => ((bitmap_Runs.f k t269 x1 x2).bind fun t270 => (spencelaw18_BitmapRuns.l0 k x0 x2 t270 ([] : List Int) (mx x1 0))))
def spencelaw18_BitmapRuns.l0 : Nat → List Int → Int → List (S86) → List Int → Int → Option (Bool)
  | 0, _, _, _, _, _ => none
  | k + 1, x0, x2, x7, x8, x9 => if x9 < (mn x2 4097) then (if x8.length < 17592186044416 then (spencelaw18_BitmapRuns.l0 k x0 x2 x7 (x8 ++ [x9]) (wrap64 (x9 + 1))) else (none)) else ((spenceref24_Split.f k x8 x0).bind fun t276 => ((spenceref24_Runs.f k x7 t276).bind fun t279 => (some t279)))
end
def spencelaw18_BitmapRuns.f (k : Nat) (l0 : List Int) (a1 : Int) (a2 : Int) : Option (Bool) := (spencelaw18_awake.f k).bind fun t268 => (if t268 = true then (if (l0.length : Int) > 60 then (spencelaw18_BitmapRuns.j0 k l0 a1 a2 true) else (if a2 > 200 then (spencelaw18_BitmapRuns.j0 k l0 a1 a2 (decide (a1 < 3800))) else (spencelaw18_BitmapRuns.j0 k l0 a1 a2 false))) else (some false))
theorem spencelaw18_BitmapRuns.mono_l : ∀ k, (∀ y0 y1 y2 y3, LeO (spencelaw18_BitmapRuns.j0 k y0 y1 y2 y3) (spencelaw18_BitmapRuns.j0 (k + 1) y0 y1 y2 y3)) ∧ (∀ y0 y1 y2 y3 y4, LeO (spencelaw18_BitmapRuns.l0 k y0 y1 y2 y3 y4) (spencelaw18_BitmapRuns.l0 (k + 1) y0 y1 y2 y3 y4))
  | 0 => ⟨fun _ _ _ _ r h => by simp [spencelaw18_BitmapRuns.j0] at h, fun _ _ _ _ _ r h => by simp [spencelaw18_BitmapRuns.l0] at h⟩
  | k + 1 => by
    obtain ⟨ih0, ih1⟩ := spencelaw18_BitmapRuns.mono_l k
    refine ⟨?_, ?_⟩
    · intro y0 y1 y2 y3
      unfold spencelaw18_BitmapRuns.j0
      repeat' first
      | (with_reducible exact ih0 _ _ _ _)
      | (with_reducible exact ih1 _ _ _ _ _)
      | (with_reducible exact bitmap_Runs.mono _ _ _ _)
      | (with_reducible exact spencelaw18_awake.mono _)
      | (with_reducible exact spenceref24_Runs.mono _ _ _)
      | (with_reducible exact spenceref24_Split.mono _ _ _)
      | (with_reducible exact LeO.refl _)
      | (with_reducible exact LeO.none _)
      | (with_reducible refine LeO.ite ?_ ?_)
      | (with_reducible refine LeO.bind ?_ (fun _ => ?_))
      | exact ih0 _ _ _ _
      | exact ih1 _ _ _ _ _
      | exact bitmap_Runs.mono _ _ _ _
      | exact spencelaw18_awake.mono _
      | exact spenceref24_Runs.mono _ _ _
      | exact spenceref24_Split.mono _ _ _
      | exact LeO.none _
      | refine LeO.ite ?_ ?_
      | refine LeO.bind ?_ (fun _ => ?_)
    · intro y0 y1 y2 y3 y4
      unfold spencelaw18_BitmapRuns.l0
      repeat' first
      | (with_reducible exact ih0 _ _ _ _)
      | (with_reducible exact ih1 _ _ _ _ _)
      | (with_reducible exact bitmap_Runs.mono _ _ _ _)
      | (with_reducible exact spencelaw18_awake.mono _)
      | (with_reducible exact spenceref24_Runs.mono _ _ _)
      | (with_reducible exact spenceref24_Split.mono _ _ _)
      | (with_reducible exact LeO.refl _)
      | (with_reducible exact LeO.none _)
      | (with_reducible refine LeO.ite ?_ ?_)
      | (with_reducible refine LeO.bind ?_ (fun _ => ?_))
      | exact ih0 _ _ _ _
      | exact ih1 _ _ _ _ _
      | exact bitmap_Runs.mono _ _ _ _
      | exact spencelaw18_awake.mono _
      | exact spenceref24_Runs.mono _ _ _
      | exact spenceref24_Split.mono _ _ _
      | exact LeO.none _
      | refine LeO.ite ?_ ?_
      | refine LeO.bind ?_ (fun _ => ?_)
theorem spencelaw18_BitmapRuns.mono : ∀ a0 a1 a2 k, LeO (spencelaw18_BitmapRuns.f k a0 a1 a2) (spencelaw18_BitmapRuns.f (k + 1) a0 a1 a2) := by
  intro a0 a1 a2 k
  obtain ⟨ih0, ih1⟩ := spencelaw18_BitmapRuns.mono_l k
  unfold spencelaw18_BitmapRuns.f
  repeat' first
      | (with_reducible exact ih0 _ _ _ _)
      | (with_reducible exact ih1 _ _ _ _ _)
      | (with_reducible exact bitmap_Runs.mono _ _ _ _)
      | (with_reducible exact spencelaw18_awake.mono _)
      | (with_reducible exact spenceref24_Runs.mono _ _ _)
      | (with_reducible exact spenceref24_Split.mono _ _ _)
      | (with_reducible exact LeO.refl _)
      | (with_reducible exact LeO.none _)
      | (with_reducible refine LeO.ite ?_ ?_)
      | (with_reducible refine LeO.bind ?_ (fun _ => ?_))
      | exact ih0 _ _ _ _
      | exact ih1 _ _ _ _ _
      | exact bitmap_Runs.mono _ _ _ _
      | exact spencelaw18_awake.mono _
      | exact spenceref24_Runs.mono _ _ _
      | exact spenceref24_Split.mono _ _ _
      | exact LeO.none _
      | refine LeO.ite ?_ ?_
      | refine LeO.bind ?_ (fun _ => ?_)
def spencelaw18_BitmapTwo.f (l0 : List Int) (l1 : List Int) (a2 : Int) : Option (Bool) := some true
def spenceref01_Ints.l0 : Nat → List Int → List Int → Int → Int → Option (Bool)
  | 0, _, _, _, _ => none
  | k + 1, x0, x1, x12, x13 => if x13 < x12 then (if 0 ≤ x13 then (if x13 < (x0.length : Int) then (if x13 < (x1.length : Int) then (if (rd x0 x13) = (rd x1 x13) then (spenceref01_Ints.l0 k x0 x1 x12 (wrap64 (x13 + 1))) else (some false)) else (none)) else (none)) else (none)) else (some true)
def spenceref01_Ints.f (k : Nat) (l0 : List Int) (l1 : List Int) : Option (Bool) := if (l0.length : Int) = (l1.length : Int) then (spenceref01_Ints.l0 k l0 l1 (l0.length : Int) 0) else (some false)
theorem spenceref01_Ints.mono_l : ∀ k, (∀ y0 y1 y2 y3, LeO (spenceref01_Ints.l0 k y0 y1 y2 y3) (spenceref01_Ints.l0 (k + 1) y0 y1 y2 y3))
  | 0 => fun _ _ _ _ r h => by simp [spenceref01_Ints.l0] at h
  | k + 1 => by
    have ih0 := spenceref01_Ints.mono_l k
    · intro y0 y1 y2 y3
      unfold spenceref01_Ints.l0
      repeat' first
      | (with_reducible exact ih0 _ _ _ _)
      | (with_reducible exact LeO.refl _)
      | (with_reducible exact LeO.none _)
      | (with_reducible refine LeO.ite ?_ ?_)
      | (with_reducible refine LeO.bind ?_ (fun _ => ?_))
      | exact ih0 _ _ _ _
      | exact LeO.none _
      | refine LeO.ite ?_ ?_
      | refine LeO.bind ?_ (fun _ => ?_)
theorem spenceref01_Ints.mono : ∀ a0 a1 k, LeO (spenceref01_Ints.f k a0 a1) (spenceref01_Ints.f (k + 1) a0 a1) := by
  intro a0 a1 k
  have ih0 := spenceref01_Ints.mono_l k
  unfold spenceref01_Ints.f
  repeat' first
      | (with_reducible exact ih0 _ _ _ _)
      | (with_reducible exact LeO.refl _)
      | (with_reducible exact LeO.none _)
      | (with_reducible refine LeO.ite ?_ ?_)
      | (with_reducible refine LeO.bind ?_ (fun _ => ?_))
      | exact ih0 _ _ _ _
      | exact LeO.none _
      | refine LeO.ite ?_ ?_
      | refine LeO.bind ?_ (fun _ => ?_)
set_option maxHeartbeats 8000000 in
set_option maxRecDepth 100000 in
theorem spenceref01_Ints.calls (k : Nat) (A0 : Option Addr) (c0 : Nat) (l0 : List Int) (A1 : Option Addr) (c1 : Nat) (l1 : List Int) (r : Bool) (w : World) (hr0 : Kd.C (Kd.int .i64) w A0 l0.length l0) (hc0 : l0.length ≤ c0) (hr1 : Kd.C (Kd.int .i64) w A1 l1.length l1) (hc1 : l1.length ≤ c1) (h : spenceref01_Ints.f k l0 l1 = some r) :
    Calls Try.prog 34 #[.slice A0 l0.length c0, .slice A1 l1.length c1] w fun e w' => e = .returned (.bool r) ∧ Drawn0 w w' := by
  have HR0 := Aside0.mk hr0
  have HC0 := Aside0.mk hc0
  clear hr0 hc0
  have HR1 := Aside0.mk hr1
  have HC1 := Aside0.mk hc1
  clear hr1 hc1
  have H : (if (l0.length : Int) = (l1.length : Int) then (spenceref01_Ints.l0 k l0 l1 (l0.length : Int) 0) else (some false)) = some r := h
  clear h
  by_cases c3 : (l0.length : Int) = (l1.length : Int)
  · rw [if_pos c3] at H
    have c3b0 : ((l0.length : Int) == (l1.length : Int)) = true := beq_iff_eq.mpr c3
    have c3b1 : ((l0.length : Int) != (l1.length : Int)) = false := bne_eq_false_iff_eq.mpr c3
    have c3b2 : (l0.length == l1.length) = true := by first | simpa using c3 | (simp at c3 ⊢; omega)
    clear c3
    have H' := Aside0.mk H
    clear H
    go_enter Try.func34, Try.ntmps34
    go_wp2
    repeat (go_quiet (fail); try go_wp2)
    go_loopg [13] k (fun kq v13 w' => ∃ (x13_1 : Int), v13 = .int .i64 x13_1 ∧ Aside0 (spenceref01_Ints.l0 kq l0 l1 (l0.length : Int) x13_1 = some r) ∧ Aside0 (kq ≤ k) ∧ Drawn0 w w')
    case atStart => exact ⟨(0), (by first | rfl | (simp; done) | (simp [*]; done)), H', ⟨Nat.le_refl _⟩, by repeat (first | exact Drawn0.refl _ | apply Drawn0.step)⟩
    case round =>
      clear H'
      try clear c1
      try clear p2
      try clear c3
      try clear c3b0
      try clear c3b1
      try clear c3b2
      obtain ⟨x13_1, rfl, HA, HK1, ⟨m1, rfl⟩⟩ := hrel
      cases gk with
      | zero => exact absurd HA.out (by simp [spenceref01_Ints.l0])
      | succ k1 =>
        have H := HA.out
        clear HA
        simp only [spenceref01_Ints.l0] at H
        by_cases c4 : x13_1 < (l0.length : Int)
        · rw [if_pos c4] at H
          have c4b0 : decide (x13_1 < (l0.length : Int)) = true := decide_eq_true c4
          clear c4
          by_cases c5 : 0 ≤ x13_1
          · rw [if_pos c5] at H
            have c5b0 : decide (0 ≤ x13_1) = true := decide_eq_true c5
            clear c5
            by_cases c6 : x13_1 < (l0.length : Int)
            · rw [if_pos c6] at H
              have c6b0 : decide (x13_1 < (l0.length : Int)) = true := decide_eq_true c6
              clear c6
              by_cases c7 : x13_1 < (l1.length : Int)
              · rw [if_pos c7] at H
                have c7b0 : decide (x13_1 < (l1.length : Int)) = true := decide_eq_true c7
                clear c7
                by_cases c8 : (rd l0 x13_1) = (rd l1 x13_1)
                · rw [if_pos c8] at H
                  have c8b0 : ((rd l0 x13_1) == (rd l1 x13_1)) = true := beq_iff_eq.mpr c8
                  have c8b1 : ((rd l0 x13_1) != (rd l1 x13_1)) = false := bne_eq_false_iff_eq.mpr c8
                  clear c8
                  have H' := Aside0.mk H
                  clear H
                  have p291 : 0 ≤ (x13_1 : Int) := of_decide_eq_true (by first | (with_reducible assumption) | assumption)
                  have q291 : x13_1 < (l0.length : Int) := of_decide_eq_true (by first | (with_reducible assumption) | assumption)
                  obtain ⟨ad291, e291, hx291_0⟩ := Kd.at_int HR0.out x13_1 p291 q291
                  cases e291
                  replace p291 := eq_true p291
                  replace q291 := eq_true q291
                  have p292 : 0 ≤ (x13_1 : Int) := of_decide_eq_true (by first | (with_reducible assumption) | assumption)
                  have q292 : x13_1 < (l1.length : Int) := of_decide_eq_true (by first | (with_reducible assumption) | assumption)
                  obtain ⟨ad292, e292, hx292_0⟩ := Kd.at_int HR1.out x13_1 p292 q292
                  cases e292
                  replace p292 := eq_true p292
                  replace q292 := eq_true q292
                  go_wp2
                  repeat (go_quiet (fail); try go_wp2)
                  go_roundg k1
                  case measure => have := HK1.out; omega
                  case rel => exact ⟨(wrap64 (x13_1 + 1)), (by first | rfl | (simp; done) | (simp [*]; done)), H', ⟨by have := HK1.out; omega⟩, by repeat (first | exact Drawn0.refl _ | apply Drawn0.step)⟩
                · rw [if_neg c8] at H
                  have c8b0 : ((rd l0 x13_1) == (rd l1 x13_1)) = false := beq_eq_false_iff_ne.mpr c8
                  have c8b1 : ((rd l0 x13_1) != (rd l1 x13_1)) = true := bne_iff_ne.mpr c8
                  obtain rfl := Option.some.inj H
                  have p291 : 0 ≤ (x13_1 : Int) := of_decide_eq_true (by first | (with_reducible assumption) | assumption)
                  have q291 : x13_1 < (l0.length : Int) := of_decide_eq_true (by first | (with_reducible assumption) | assumption)
                  obtain ⟨ad291, e291, hx291_0⟩ := Kd.at_int HR0.out x13_1 p291 q291
                  cases e291
                  replace p291 := eq_true p291
                  replace q291 := eq_true q291
                  have p292 : 0 ≤ (x13_1 : Int) := of_decide_eq_true (by first | (with_reducible assumption) | assumption)
                  have q292 : x13_1 < (l1.length : Int) := of_decide_eq_true (by first | (with_reducible assumption) | assumption)
                  obtain ⟨ad292, e292, hx292_0⟩ := Kd.at_int HR1.out x13_1 p292 q292
                  cases e292
                  replace p292 := eq_true p292
                  replace q292 := eq_true q292
                  go_wp2
                  repeat (go_quiet (fail); try go_wp2)
                  go_ret
                  exact ⟨by first | rfl | (simp; done) | (simp [*]; done) | exact ne_empty _ | exact eq_empty _, by repeat (first | exact Drawn0.refl _ | apply Drawn0.step)⟩
              · rw [if_neg c7] at H
                exact absurd H (by simp)
            · rw [if_neg c6] at H
              exact absurd H (by simp)
          · rw [if_neg c5] at H
            exact absurd H (by simp)
        · rw [if_neg c4] at H
          have c4b0 : decide (x13_1 < (l0.length : Int)) = false := decide_eq_false c4
          clear c4
          obtain rfl := Option.some.inj H
          go_wp2
          repeat (go_quiet (fail); try go_wp2)
          go_ret
          exact ⟨by first | rfl | (simp; done) | (simp [*]; done) | exact ne_empty _ | exact eq_empty _, by repeat (first | exact Drawn0.refl _ | apply Drawn0.step)⟩
  · rw [if_neg c3] at H
    have c3b0 : ((l0.length : Int) == (l1.length : Int)) = false := beq_eq_false_iff_ne.mpr c3
    have c3b1 : ((l0.length : Int) != (l1.length : Int)) = true := bne_iff_ne.mpr c3
    have c3b2 : (l0.length == l1.length) = false := by first | simpa using c3 | (simp at c3 ⊢; omega)
    obtain rfl := Option.some.inj H
    go_enter Try.func34, Try.ntmps34
    go_wp2
    repeat (go_quiet (fail); try go_wp2)
    go_ret
    exact ⟨by first | rfl | (simp; done) | (simp [*]; done) | exact ne_empty _ | exact eq_empty _, by repeat (first | exact Drawn0.refl _ | apply Drawn0.step)⟩
def span_Meet.f (a0_0 : Int) (a0_1 : Int) (a1_0 : Int) (a1_1 : Int) : Option (Int × Int × Bool) := (span_Right.f a0_0 a0_1).bind fun t297 => (if t297 = true then ((span_Right.f a1_0 a1_1).bind fun t298 => (if t298 = true then ((span_Right.f (mx a0_0 a1_0) (mn a0_1 a1_1)).bind fun t299 => (if t299 = true then (some (mx a0_0 a1_0, mn a0_1 a1_1, true)) else (some (0, 0, false)))) else (some (0, 0, false)))) else (some (0, 0, false)))
def cuts_Part.f (a0_0 : Int) (a0_1 : Int) (a1 : Int) (a2 : Int) (a3 : Int) : Option (Int × Int × Bool) := (cuts_Bounds.f a1 a2 a3).bind fun bt302 => (if bt302.2.2 = true then ((span_Meet.f a0_0 a0_1 bt302.1 bt302.2.1).bind fun bt306 => (some (bt306.1, bt306.2.1, bt306.2.2))) else (some (0, 0, false)))
end Go.Proofs.Ytmojlhpkidbklaa.PAll
namespace Go.Proofs.Ytmojlhpkidbklaa.PAll
open Go.RowKit Go.Proofs.Ytmojlhpkidbklaa.Xw Go.Proofs.YtmojlhpkidbklaaW.PrintWords Go.Proofs.YtmojlhpkidbklaaW.PrintLast Go.Proofs.YtmojlhpkidbklaaW.PrintMore
attribute [local go_sem] max2_int min2_int max_two min_two max_three min_three max_four min_four   -- for this text's walks alone
set_option linter.unusedVariables false
set_option linter.unusedSimpArgs false
mutual
def cuts_Cover.l0 : Nat → List (S35) → Int → Int → List Int → Int → Int → Option (List Int)
  | 0, _, _, _, _, _, _ => none
  | k + 1, x0, x1, x2, x7, x15, x16 => if x16 < x15 then (cuts_Cover.l1 k x0 x1 x2 x7 x16 x15 x16 x0 (x0.length : Int) 0) else (some x7)
def cuts_Cover.l1 : Nat → List (S35) → Int → Int → List Int → Int → Int → Int → List (S35) → Int → Int → Option (List Int)
  | 0, _, _, _, _, _, _, _, _, _, _ => none
  | k + 1, x0, x1, x2, x7, x8, x15, x16, x19, x20, x21 => if x21 < x20 then (if 0 ≤ x21 then (if x21 < (x19.length : Int) then ((cuts_Part.f ((rd_T35 x19 x21).f0) ((rd_T35 x19 x21).f1) x8 x1 x2).bind fun bt312 => (if bt312.2.2 = true then (if x7.length < 17592186044416 then (cuts_Cover.l0 k x0 x1 x2 (x7 ++ [x8]) x15 (wrap64 (x16 + 1))) else (none)) else (cuts_Cover.l1 k x0 x1 x2 x7 x8 x15 x16 x19 x20 (wrap64 (x21 + 1))))) else (none)) else (none)) else (cuts_Cover.l0 k x0 x1 x2 x7 x15 (wrap64 (x16 + 1)))
end
def cuts_Cover.f (k : Nat) (l0 : List (S35)) (a1 : Int) (a2 : Int) : Option (List Int) := (cuts_Count.f a1 a2).bind fun t309 => (cuts_Cover.l0 k l0 a1 a2 ([] : List Int) t309 0)
theorem cuts_Cover.mono_l : ∀ k, (∀ y0 y1 y2 y3 y4 y5, LeO (cuts_Cover.l0 k y0 y1 y2 y3 y4 y5) (cuts_Cover.l0 (k + 1) y0 y1 y2 y3 y4 y5)) ∧ (∀ y0 y1 y2 y3 y4 y5 y6 y7 y8 y9, LeO (cuts_Cover.l1 k y0 y1 y2 y3 y4 y5 y6 y7 y8 y9) (cuts_Cover.l1 (k + 1) y0 y1 y2 y3 y4 y5 y6 y7 y8 y9))
  | 0 => ⟨fun _ _ _ _ _ _ r h => by simp [cuts_Cover.l0] at h, fun _ _ _ _ _ _ _ _ _ _ r h => by simp [cuts_Cover.l1] at h⟩
  | k + 1 => by
    obtain ⟨ih0, ih1⟩ := cuts_Cover.mono_l k
    refine ⟨?_, ?_⟩
    · intro y0 y1 y2 y3 y4 y5
      unfold cuts_Cover.l0
      repeat' first
      | (with_reducible exact ih0 _ _ _ _ _ _)
      | (with_reducible exact ih1 _ _ _ _ _ _ _ _ _ _)
      | (with_reducible exact LeO.refl _)
      | (with_reducible exact LeO.none _)
      | (with_reducible refine LeO.ite ?_ ?_)
      | (with_reducible refine LeO.bind ?_ (fun _ => ?_))
      | exact ih0 _ _ _ _ _ _
      | exact ih1 _ _ _ _ _ _ _ _ _ _
      | exact LeO.none _
      | refine LeO.ite ?_ ?_
      | refine LeO.bind ?_ (fun _ => ?_)
    · intro y0 y1 y2 y3 y4 y5 y6 y7 y8 y9
      unfold cuts_Cover.l1
      repeat' first
      | (with_reducible exact ih0 _ _ _ _ _ _)
      | (with_reducible exact ih1 _ _ _ _ _ _ _ _ _ _)
      | (with_reducible exact LeO.refl _)
      | (with_reducible exact LeO.none _)
      | (with_reducible refine LeO.ite ?_ ?_)
      | (with_reducible refine LeO.bind ?_ (fun _ => ?_))
      | exact ih0 _ _ _ _ _ _
      | exact ih1 _ _ _ _ _ _ _ _ _ _
      | exact LeO.none _
      | refine LeO.ite ?_ ?_
      | refine LeO.bind ?_ (fun _ => ?_)
theorem cuts_Cover.mono : ∀ a0 a1 a2 k, LeO (cuts_Cover.f k a0 a1 a2) (cuts_Cover.f (k + 1) a0 a1 a2) := by
  intro a0 a1 a2 k
  obtain ⟨ih0, ih1⟩ := cuts_Cover.mono_l k
  unfold cuts_Cover.f
  repeat' first
      | (with_reducible exact ih0 _ _ _ _ _ _)
      | (with_reducible exact ih1 _ _ _ _ _ _ _ _ _ _)
      | (with_reducible exact LeO.refl _)
      | (with_reducible exact LeO.none _)
      | (with_reducible refine LeO.ite ?_ ?_)
      | (with_reducible refine LeO.bind ?_ (fun _ => ?_))
      | exact ih0 _ _ _ _ _ _
      | exact ih1 _ _ _ _ _ _ _ _ _ _
      | exact LeO.none _
      | refine LeO.ite ?_ ?_
      | refine LeO.bind ?_ (fun _ => ?_)
def spenceref04_Bounds.j0 : Nat → Int → Int → Int → Bool → Option (Int × Int)
  | 0, _, _, _, _ => none
  | k + 1, x0, x1, x2, x26 => if x26 = true then (some (0, 0)) else (if (wrap64 ((wrap64 (x0 * x2)) + x2)) > x1 then (some (wrap64 (x0 * x2), x1)) else (some (wrap64 (x0 * x2), wrap64 ((wrap64 (x0 * x2)) + x2))))
def spenceref04_Bounds.f (k : Nat) (a0 : Int) (a1 : Int) (a2 : Int) : Option (Int × Int) := (spenceref04_Cuts.f a1 a2).bind fun t320 => (if t320 = true then (if a0 < 0 then (spenceref04_Bounds.j0 k a0 a1 a2 true) else (if a0 > 4096 then (spenceref04_Bounds.j0 k a0 a1 a2 true) else (spenceref04_Bounds.j0 k a0 a1 a2 (decide ((wrap64 (a0 * a2)) ≥ a1))))) else (spenceref04_Bounds.j0 k a0 a1 a2 true))
theorem spenceref04_Bounds.mono_l : ∀ k, (∀ y0 y1 y2 y3, LeO (spenceref04_Bounds.j0 k y0 y1 y2 y3) (spenceref04_Bounds.j0 (k + 1) y0 y1 y2 y3))
  | 0 => fun _ _ _ _ r h => by simp [spenceref04_Bounds.j0] at h
  | k + 1 => by
    have ih0 := spenceref04_Bounds.mono_l k
    · intro y0 y1 y2 y3
      unfold spenceref04_Bounds.j0
      repeat' first
      | (with_reducible exact ih0 _ _ _ _)
      | (with_reducible exact LeO.refl _)
      | (with_reducible exact LeO.none _)
      | (with_reducible refine LeO.ite ?_ ?_)
      | (with_reducible refine LeO.bind ?_ (fun _ => ?_))
      | exact ih0 _ _ _ _
      | exact LeO.none _
      | refine LeO.ite ?_ ?_
      | refine LeO.bind ?_ (fun _ => ?_)
theorem spenceref04_Bounds.mono : ∀ a0 a1 a2 k, LeO (spenceref04_Bounds.f k a0 a1 a2) (spenceref04_Bounds.f (k + 1) a0 a1 a2) := by
  intro a0 a1 a2 k
  have ih0 := spenceref04_Bounds.mono_l k
  unfold spenceref04_Bounds.f
  repeat' first
      | (with_reducible exact ih0 _ _ _ _)
      | (with_reducible exact LeO.refl _)
      | (with_reducible exact LeO.none _)
      | (with_reducible refine LeO.ite ?_ ?_)
      | (with_reducible refine LeO.bind ?_ (fun _ => ?_))
      | exact ih0 _ _ _ _
      | exact LeO.none _
      | refine LeO.ite ?_ ?_
      | refine LeO.bind ?_ (fun _ => ?_)
def spenceref04_Right.f (a0_0 : Int) (a0_1 : Int) : Option (Bool) := if a0_0 ≥ 0 then (if a0_1 > a0_0 then (some (decide (a0_1 ≤ 4611686018427387903))) else (some false)) else (some false)
end Go.Proofs.Ytmojlhpkidbklaa.PAll
namespace Go.Proofs.Ytmojlhpkidbklaa.PAll
open Go.RowKit Go.Proofs.Ytmojlhpkidbklaa.Xw Go.Proofs.YtmojlhpkidbklaaW.PrintWords Go.Proofs.YtmojlhpkidbklaaW.PrintLast Go.Proofs.YtmojlhpkidbklaaW.PrintMore
attribute [local go_sem] max2_int min2_int max_two min_two max_three min_three max_four min_four   -- for this text's walks alone
set_option linter.unusedVariables false
set_option linter.unusedSimpArgs false
mutual
def spenceref04_Meet.j0 : Nat → Bool → Int → Int → Int → Int → Option (Int × Int)
  | 0, _, _, _, _, _ => none
  | k + 1, x12, x324000, x324001, x325000, x325001 => if x12 = true then (some (0, 0)) else (if x325000 > x324000 then (spenceref04_Meet.j1 k x325000 x324001 x325000 x325001) else (spenceref04_Meet.j1 k x324000 x324001 x325000 x325001))
def spenceref04_Meet.j1 : Nat → Int → Int → Int → Int → Option (Int × Int)
  | 0, _, _, _, _ => none
  | k + 1, x324000, x324001, x325000, x325001 => if x325001 < x324001 then (if x324000 ≥ x325001 then (some (0, 0)) else (some (x324000, x325001))) else (if x324000 ≥ x324001 then (some (0, 0)) else (some (x324000, x324001)))
end
def spenceref04_Meet.f (k : Nat) (a0_0 : Int) (a0_1 : Int) (a1_0 : Int) (a1_1 : Int) : Option (Int × Int) := (spenceref04_Right.f a0_0 a0_1).bind fun t326 => (if t326 = true then ((spenceref04_Right.f a1_0 a1_1).bind fun t327 => (spenceref04_Meet.j0 k (!t327) a0_0 a0_1 a1_0 a1_1)) else (spenceref04_Meet.j0 k true a0_0 a0_1 a1_0 a1_1))
theorem spenceref04_Meet.mono_l : ∀ k, (∀ y0 y1 y2 y3 y4, LeO (spenceref04_Meet.j0 k y0 y1 y2 y3 y4) (spenceref04_Meet.j0 (k + 1) y0 y1 y2 y3 y4)) ∧ (∀ y0 y1 y2 y3, LeO (spenceref04_Meet.j1 k y0 y1 y2 y3) (spenceref04_Meet.j1 (k + 1) y0 y1 y2 y3))
  | 0 => ⟨fun _ _ _ _ _ r h => by simp [spenceref04_Meet.j0] at h, fun _ _ _ _ r h => by simp [spenceref04_Meet.j1] at h⟩
  | k + 1 => by
    obtain ⟨ih0, ih1⟩ := spenceref04_Meet.mono_l k
    refine ⟨?_, ?_⟩
    · intro y0 y1 y2 y3 y4
      unfold spenceref04_Meet.j0
      repeat' first
      | (with_reducible exact ih0 _ _ _ _ _)
      | (with_reducible exact ih1 _ _ _ _)
      | (with_reducible exact LeO.refl _)
      | (with_reducible exact LeO.none _)
      | (with_reducible refine LeO.ite ?_ ?_)
      | (with_reducible refine LeO.bind ?_ (fun _ => ?_))
      | exact ih0 _ _ _ _ _
      | exact ih1 _ _ _ _
      | exact LeO.none _
      | refine LeO.ite ?_ ?_
      | refine LeO.bind ?_ (fun _ => ?_)
    · intro y0 y1 y2 y3
      unfold spenceref04_Meet.j1
      repeat' first
      | (with_reducible exact ih0 _ _ _ _ _)
      | (with_reducible exact ih1 _ _ _ _)
      | (with_reducible exact LeO.refl _)
      | (with_reducible exact LeO.none _)
      | (with_reducible refine LeO.ite ?_ ?_)
      | (with_reducible refine LeO.bind ?_ (fun _ => ?_))
      | exact ih0 _ _ _ _ _
      | exact ih1 _ _ _ _
      | exact LeO.none _
      | refine LeO.ite ?_ ?_
      | refine LeO.bind ?_ (fun _ => ?_)
theorem spenceref04_Meet.mono : ∀ a0 a1 a2 a3 k, LeO (spenceref04_Meet.f k a0 a1 a2 a3) (spenceref04_Meet.f (k + 1) a0 a1 a2 a3) := by
  intro a0 a1 a2 a3 k
  obtain ⟨ih0, ih1⟩ := spenceref04_Meet.mono_l k
  unfold spenceref04_Meet.f
  repeat' first
      | (with_reducible exact ih0 _ _ _ _ _)
      | (with_reducible exact ih1 _ _ _ _)
      | (with_reducible exact LeO.refl _)
      | (with_reducible exact LeO.none _)
      | (with_reducible refine LeO.ite ?_ ?_)
      | (with_reducible refine LeO.bind ?_ (fun _ => ?_))
      | exact ih0 _ _ _ _ _
      | exact ih1 _ _ _ _
      | exact LeO.none _
      | refine LeO.ite ?_ ?_
      | refine LeO.bind ?_ (fun _ => ?_)
end Go.Proofs.Ytmojlhpkidbklaa.PAll
namespace Go.Proofs.Ytmojlhpkidbklaa.PAll
open Go.RowKit Go.Proofs.Ytmojlhpkidbklaa.Xw Go.Proofs.YtmojlhpkidbklaaW.PrintWords Go.Proofs.YtmojlhpkidbklaaW.PrintLast Go.Proofs.YtmojlhpkidbklaaW.PrintMore
attribute [local go_sem] max2_int min2_int max_two min_two max_three min_three max_four min_four   -- for this text's walks alone
set_option linter.unusedVariables false
set_option linter.unusedSimpArgs false
mutual
def spenceref04_Cover.l0 : Nat → List (S35) → Int → Int → List Int → Int → Option (List Int)
  | 0, _, _, _, _, _ => none
  | k + 1, x0, x1, x2, x7, x8 => if x8 ≤ 4096 then ((spenceref04_Bounds.f k x8 x1 x2).bind fun bt328 => (if bt328.2 = 0 then (some x7) else (spenceref04_Cover.l1 k x0 x1 x2 x7 x8 false x0 (x0.length : Int) 0 bt328.1 bt328.2))) else (some x7)
def spenceref04_Cover.l1 : Nat → List (S35) → Int → Int → List Int → Int → Bool → List (S35) → Int → Int → Int → Int → Option (List Int)
  | 0, _, _, _, _, _, _, _, _, _, _, _ => none
  | k + 1, x0, x1, x2, x7, x8, x10, x24, x25, x26, x331000, x331001 => if x26 < x25 then (if 0 ≤ x26 then (if x26 < (x24.length : Int) then (if x10 = true then (spenceref04_Cover.l1 k x0 x1 x2 x7 x8 true x24 x25 (wrap64 (x26 + 1)) x331000 x331001) else ((spenceref04_Meet.f k ((rd_T35 x24 x26).f0) ((rd_T35 x24 x26).f1) x331000 x331001).bind fun bt333 => (spenceref04_Cover.l1 k x0 x1 x2 x7 x8 (decide (bt333.2 > 0)) x24 x25 (wrap64 (x26 + 1)) x331000 x331001))) else (none)) else (none)) else (if x10 = true then (if x7.length < 17592186044416 then (spenceref04_Cover.l0 k x0 x1 x2 (x7 ++ [x8]) (wrap64 (x8 + 1))) else (none)) else (spenceref04_Cover.l0 k x0 x1 x2 x7 (wrap64 (x8 + 1))))
end
def spenceref04_Cover.f (k : Nat) (l0 : List (S35)) (a1 : Int) (a2 : Int) : Option (List Int) := spenceref04_Cover.l0 k l0 a1 a2 ([] : List Int) 0
theorem spenceref04_Cover.mono_l : ∀ k, (∀ y0 y1 y2 y3 y4, LeO (spenceref04_Cover.l0 k y0 y1 y2 y3 y4) (spenceref04_Cover.l0 (k + 1) y0 y1 y2 y3 y4)) ∧ (∀ y0 y1 y2 y3 y4 y5 y6 y7 y8 y9 y10, LeO (spenceref04_Cover.l1 k y0 y1 y2 y3 y4 y5 y6 y7 y8 y9 y10) (spenceref04_Cover.l1 (k + 1) y0 y1 y2 y3 y4 y5 y6 y7 y8 y9 y10))
  | 0 => ⟨fun _ _ _ _ _ r h => by simp [spenceref04_Cover.l0] at h, fun _ _ _ _ _ _ _ _ _ _ _ r h => by simp [spenceref04_Cover.l1] at h⟩
  | k + 1 => by
    obtain ⟨ih0, ih1⟩ := spenceref04_Cover.mono_l k
    refine ⟨?_, ?_⟩
    · intro y0 y1 y2 y3 y4
      unfold spenceref04_Cover.l0
      repeat' first
      | (with_reducible exact ih0 _ _ _ _ _)
      | (with_reducible exact ih1 _ _ _ _ _ _ _ _ _ _ _)
      | (with_reducible exact spenceref04_Bounds.mono _ _ _ _)
      | (with_reducible exact spenceref04_Meet.mono _ _ _ _ _)
      | (with_reducible exact LeO.refl _)
      | (with_reducible exact LeO.none _)
      | (with_reducible refine LeO.ite ?_ ?_)
      | (with_reducible refine LeO.bind ?_ (fun _ => ?_))
      | exact ih0 _ _ _ _ _
      | exact ih1 _ _ _ _ _ _ _ _ _ _ _
      | exact spenceref04_Bounds.mono _ _ _ _
      | exact spenceref04_Meet.mono _ _ _ _ _
      | exact LeO.none _
      | refine LeO.ite ?_ ?_
      | refine LeO.bind ?_ (fun _ => ?_)
    · intro y0 y1 y2 y3 y4 y5 y6 y7 y8 y9 y10
      unfold spenceref04_Cover.l1
      repeat' first
      | (with_reducible exact ih0 _ _ _ _ _)
      | (with_reducible exact ih1 _ _ _ _ _ _ _ _ _ _ _)
      | (with_reducible exact spenceref04_Bounds.mono _ _ _ _)
      | (with_reducible exact spenceref04_Meet.mono _ _ _ _ _)
      | (with_reducible exact LeO.refl _)
      | (with_reducible exact LeO.none _)
      | (with_reducible refine LeO.ite ?_ ?_)
      | (with_reducible refine LeO.bind ?_ (fun _ => ?_))
      | exact ih0 _ _ _ _ _
      | exact ih1 _ _ _ _ _ _ _ _ _ _ _
      | exact spenceref04_Bounds.mono _ _ _ _
      | exact spenceref04_Meet.mono _ _ _ _ _
      | exact LeO.none _
      | refine LeO.ite ?_ ?_
      | refine LeO.bind ?_ (fun _ => ?_)
theorem spenceref04_Cover.mono : ∀ a0 a1 a2 k, LeO (spenceref04_Cover.f k a0 a1 a2) (spenceref04_Cover.f (k + 1) a0 a1 a2) := by
  intro a0 a1 a2 k
  obtain ⟨ih0, ih1⟩ := spenceref04_Cover.mono_l k
  unfold spenceref04_Cover.f
  repeat' first
      | (with_reducible exact ih0 _ _ _ _ _)
      | (with_reducible exact ih1 _ _ _ _ _ _ _ _ _ _ _)
      | (with_reducible exact spenceref04_Bounds.mono _ _ _ _)
      | (with_reducible exact spenceref04_Meet.mono _ _ _ _ _)
      | (with_reducible exact LeO.refl _)
      | (with_reducible exact LeO.none _)
      | (with_reducible refine LeO.ite ?_ ?_)
      | (with_reducible refine LeO.bind ?_ (fun _ => ?_))
      | exact ih0 _ _ _ _ _
      | exact ih1 _ _ _ _ _ _ _ _ _ _ _
      | exact spenceref04_Bounds.mono _ _ _ _
      | exact spenceref04_Meet.mono _ _ _ _ _
      | exact LeO.none _
      | refine LeO.ite ?_ ?_
      | refine LeO.bind ?_ (fun _ => ?_)
def spencelaw10_CutsCovers.f (k : Nat) (l0 : List (S35)) (a1 : Int) (a2 : Int) : Option (Bool) := (spencelaw10_awake.f).bind fun t338 => (if t338 = true then (if (l0.length : Int) > 20 then (some true) else ((cuts_Cover.f k l0 a1 a2).bind fun t339 => ((spenceref04_Cover.f k l0 a1 a2).bind fun t342 => ((spenceref01_Ints.f k t339 t342).bind fun t345 => (some t345))))) else (some false))
theorem spencelaw10_CutsCovers.mono : ∀ a0 a1 a2 k, LeO (spencelaw10_CutsCovers.f k a0 a1 a2) (spencelaw10_CutsCovers.f (k + 1) a0 a1 a2) := by
  intro a0 a1 a2 k
  unfold spencelaw10_CutsCovers.f
  repeat' first
      | (with_reducible exact cuts_Cover.mono _ _ _ _)
      | (with_reducible exact spenceref01_Ints.mono _ _ _)
      | (with_reducible exact spenceref04_Cover.mono _ _ _ _)
      | (with_reducible exact LeO.refl _)
      | (with_reducible exact LeO.none _)
      | (with_reducible refine LeO.ite ?_ ?_)
      | (with_reducible refine LeO.bind ?_ (fun _ => ?_))
      | exact cuts_Cover.mono _ _ _ _
      | exact spenceref01_Ints.mono _ _ _
      | exact spenceref04_Cover.mono _ _ _ _
      | exact LeO.none _
      | refine LeO.ite ?_ ?_
      | refine LeO.bind ?_ (fun _ => ?_)
def cuts_Of.f (a0_0 : Int) (a0_1 : Int) (a1 : Int) : Option (Int × Int) := (span_Right.f a0_0 a0_1).bind fun t347 => (if t347 = true then ((cuts_Right.f 0 a1).bind fun t348 => (if t348 = true then (if a1 = 0 then (none) else (some (wrap64 (Int.tdiv a0_0 a1), wrap64 ((wrap64 (Int.tdiv (wrap64 (a0_1 - 1)) a1)) + 1)))) else (some (0, 0)))) else (some (0, 0)))
end Go.Proofs.Ytmojlhpkidbklaa.PAll
namespace Go.Proofs.Ytmojlhpkidbklaa.Pure
open Go.RowKit Go.Proofs.Ytmojlhpkidbklaa.PAll Go.Proofs.YtmojlhpkidbklaaW.PrintWords Go.Proofs.YtmojlhpkidbklaaW.PrintLast Go.Proofs.YtmojlhpkidbklaaW.PrintMore
def CR (n s : Int) : Prop := 0 ≤ n ∧ n ≤ 4096 ∧ 1 ≤ s ∧ s ≤ 64
instance (n s : Int) : Decidable (CR n s) := by unfold CR; infer_instance
theorem right_eq (n s : Int) : cuts_Right.f n s = some (decide (CR n s)) := by
  unfold cuts_Right.f CR
  by_cases h0 : n ≥ 0 <;> by_cases h1 : n ≤ 4096 <;> by_cases h2 : s ≥ 1 <;> by_cases h3 : s ≤ 64 <;> simp [h0, h1, h2, h3] <;> omega
/-- how many slices -/
def cnt (n s : Int) : Int := if CR n s then (n + s - 1) / s else 0
theorem count_eq (n s : Int) : cuts_Count.f n s = some (cnt n s) := by
  unfold cuts_Count.f cnt
  rw [right_eq]
  by_cases h : CR n s
  · simp only [h, decide_true, Option.bind_some, if_true]
    obtain ⟨h0, h1, h2, h3⟩ := h
    rw [if_neg (by omega), wrap_id (x := n + s) (by omega), wrap_id (x := n + s - 1) (by omega), Int.tdiv_eq_ediv_of_nonneg (by omega)]
    have h4 : 0 ≤ (n + s - 1) / s := Int.ediv_nonneg (by omega) (by omega)
    have h5 : (n + s - 1) / s ≤ n + s - 1 := Int.ediv_le_self _ (by omega)
    rw [wrap_id (by omega)]
  · simp [h]
theorem lt_cnt {i n s : Int} (h : CR n s) : i < cnt n s ↔ i * s < n := by
  unfold cnt
  rw [if_pos h]
  obtain ⟨h0, h1, h2, h3⟩ := h
  have h4 : i + 1 ≤ (n + s - 1) / s ↔ (i + 1) * s ≤ n + s - 1 := Int.le_ediv_iff_mul_le (by omega)
  rw [Int.add_mul, Int.one_mul] at h4
  constructor
  · intro h; have := h4.1 (by omega); omega
  · intro h; have := h4.2 (by omega); omega
theorem cnt_bd {n s : Int} (h : CR n s) : 0 ≤ cnt n s ∧ cnt n s ≤ n := by
  have h' := h
  obtain ⟨h0, h1, h2, h3⟩ := h'
  constructor
  · unfold cnt; rw [if_pos h]; exact Int.ediv_nonneg (by omega) (by omega)
  · have := (lt_cnt (i := n) h).1
    have h6 : n ≤ n * s := by have := Int.mul_le_mul_of_nonneg_left h2 h0; omega
    by_cases h5 : n < cnt n s
    · have := this h5; omega
    · omega
end Go.Proofs.Ytmojlhpkidbklaa.Pure
namespace Go.Proofs.Ytmojlhpkidbklaa.Pure
open Go.RowKit Go.Proofs.Ytmojlhpkidbklaa.PAll Go.Proofs.YtmojlhpkidbklaaW.PrintWords Go.Proofs.YtmojlhpkidbklaaW.PrintLast Go.Proofs.YtmojlhpkidbklaaW.PrintMore
theorem ints_loop (l m : List Int) (hm : m.length = l.length) (hl : l.length ≤ 9223372036854775807) (d : Nat) : ∀ i : Int, 0 ≤ i → i ≤ l.length → (l.length : Int) - i = d →
    Ev (fun k => spenceref01_Ints.l0 k l m (l.length : Int) i) (decide (l.drop i.toNat = m.drop i.toNat)) := by
  induction d with
  | zero =>
    intro i h0 h1 hd
    refine Ev.pos (fun k => ?_)
    simp only [spenceref01_Ints.l0]
    rw [if_neg (by omega), List.drop_of_length_le (by omega), List.drop_of_length_le (by omega)]
    rfl
  | succ d ih =>
    intro i h0 h1 hd
    obtain ⟨K, hK⟩ := ih (i + 1) (by omega) (by omega) (by omega)
    refine ⟨K + 1, fun k hk => ?_⟩
    obtain ⟨k, rfl⟩ : ∃ j, k = j + 1 := ⟨k - 1, by omega⟩
    have h := hK k (by omega)
    dsimp only at h
    simp only [spenceref01_Ints.l0]
    have hi : i.toNat < l.length := by omega
    have hi' : i.toNat < m.length := by omega
    have e1 : (i + 1).toNat = i.toNat + 1 := by omega
    rw [if_pos (by omega), if_pos h0, if_pos (by omega), if_pos (by omega), wrap_id (by omega), h, e1, List.drop_eq_getElem_cons hi, List.drop_eq_getElem_cons hi']
    have r1 : rd l i = l[i.toNat] := by simp [rd, hi]
    have r2 : rd m i = m[i.toNat] := by simp [rd, hi']
    rw [r1, r2]
    by_cases h2 : l[i.toNat] = m[i.toNat]
    · rw [if_pos h2, h2]; simp only [List.cons.injEq, true_and]
    · rw [if_neg h2]; simp only [List.cons.injEq, h2, false_and, decide_false]
theorem ints_ev (l m : List Int) (hl : l.length ≤ 9223372036854775807) : Ev (fun k => spenceref01_Ints.f k l m) (decide (l = m)) := by
  by_cases h : m.length = l.length
  · have := ints_loop l m h hl l.length 0 (by omega) (by omega) (by omega)
    simp only [Int.toNat_zero, List.drop_zero] at this
    unfold spenceref01_Ints.f
    obtain ⟨K, hK⟩ := this
    exact ⟨K, fun k hk => by dsimp only; rw [if_pos (by omega)]; exact hK k hk⟩
  · refine Ev.all (fun k => ?_)
    unfold spenceref01_Ints.f
    rw [if_neg (by omega), decide_eq_false (fun e => h (by rw [e]))]
end Go.Proofs.Ytmojlhpkidbklaa.Pure

namespace Go.Proofs.Ytmojlhpkidbklaa.PAll
open Go.Proofs.Ytmojlhpkidbklaa.Ag (row_load row_store ag_gate ag_gate_st row_store2)
open Go.RowKit Go.Proofs.Ytmojlhpkidbklaa.Xw Go.Proofs.YtmojlhpkidbklaaW.PrintWords Go.Proofs.YtmojlhpkidbklaaW.PrintLast Go.Proofs.YtmojlhpkidbklaaW.PrintMore
attribute [local go_sem] max2_int min2_int max_two min_two max_three min_three max_four min_four   -- for this text's walks alone
attribute [local go_sem ↓] Ag.ldMap_eq Ag.ldTrk_eq
set_option linter.unusedVariables false
set_option linter.unusedSimpArgs false
def prefetch_New.f : Option (Nat → Int) := some Ag.trkZ
theorem prefetch_New.calls (r : Nat → Int) (w : World) (h : prefetch_New.f = some r) :
    Calls Try.prog 44 #[] w fun e w' => e = .returned (.agg (Ag.agC .i64 32 r)) ∧ Below w.heap.size w w' := by
  obtain rfl := Option.some.inj h
  exact Ag.new_calls w
def prefetch_Track_Note.f (a0_0 : Nat → Int) (a1 : Int) (a2 : Int) (a3 : Int) : Option (Nat → Int) := if Ag.smallAt a0_0 a1 = true then some (Ag.noteF a0_0 a1 a2 a3) else none
theorem prefetch_Track_Note.calls (a0_0 : Nat → Int) (a1 : Int) (a2 : Int) (a3 : Int) (r : Nat → Int) (w : World) (h : prefetch_Track_Note.f a0_0 a1 a2 a3 = some r) :
    Calls Try.prog 45 #[.agg (Ag.agC .i64 32 a0_0), .int .i64 a1, .int .i64 a2, .int .i64 a3] w fun e w' => e = .returned (.agg (Ag.agC .i64 32 r)) ∧ Below w.heap.size w w' := by
  unfold prefetch_Track_Note.f at h
  split at h
  · rename_i hs
    obtain rfl := Option.some.inj h
    exact Ag.note_calls a0_0 a1 a2 a3 hs w
  · cases h
def prefetch_Track_Row.f (a0_0 : Nat → Int) (a1 : Int) : Option Int := some (Ag.longF a0_0 a1)
theorem prefetch_Track_Row.calls (a0_0 : Nat → Int) (a1 : Int) (r : Int) (w : World) (h : prefetch_Track_Row.f a0_0 a1 = some r) :
    Calls Try.prog 47 #[.agg (Ag.agC .i64 32 a0_0), .int .i64 a1] w fun e w' => e = .returned (.int .i64 r) ∧ Below w.heap.size w w' := by
  obtain rfl := Option.some.inj h
  exact Ag.long_calls a0_0 a1 w
mutual
def prefetch_Window.j0 : Nat → Int → Int → Int → Int → Bool → (Nat → Int) → (Nat → Int) → Option (List Int)
  | 0, _, _, _, _, _, _, _ => none
  | k + 1, x1, x2, x5, x15, x28, x379000, x380000 => if x28 = true then (some ([] : List Int)) else ((prefetch_Track_Row.f x379000 x1).bind fun t381 => (prefetch_Window.l0 k x2 x15 ([] : List Int) (mx (mn x5 (wrap64 (t381 - 1))) 0) (wrap64 (x2 + 1)) x380000))
def prefetch_Window.l0 : Nat → Int → Int → List Int → Int → Int → (Nat → Int) → Option (List Int)
  | 0, _, _, _, _, _, _ => none
  | k + 1, x2, x15, x16, x17, x18, x380000 => if x18 < x15 then (prefetch_Window.j2 k x2 x15 x16 x17 x18 (decide ((wrap64 (x18 - x2)) ≤ x17)) x380000) else (prefetch_Window.j2 k x2 x15 x16 x17 x18 false x380000)
def prefetch_Window.j2 : Nat → Int → Int → List Int → Int → Int → Bool → (Nat → Int) → Option (List Int)
  | 0, _, _, _, _, _, _, _ => none
  | k + 1, x2, x15, x16, x17, x18, x47, x380000 => if x47 = true then ((bitmap_Map_Has.f x380000 x18).bind fun t382 => (if t382 = true then (prefetch_Window.l0 k x2 x15 x16 x17 (wrap64 (x18 + 1)) x380000) else (if x16.length < 17592186044416 then (prefetch_Window.l0 k x2 x15 (x16 ++ [x18]) x17 (wrap64 (x18 + 1)) x380000) else (none)))) else (some x16)
end
def prefetch_Window.f (k : Nat) (a0_0 : (Nat → Int)) (a1 : Int) (a2 : Int) (a3 : Int) (a4 : Int) (a5 : Int) (a6_0 : (Nat → Int)) : Option (List Int) := (cuts_Count.f a3 a4).bind fun t380 => (if a2 < 0 then (prefetch_Window.j0 k a1 a2 a5 t380 true a0_0 a6_0) else (prefetch_Window.j0 k a1 a2 a5 t380 (decide (a2 ≥ t380)) a0_0 a6_0))
theorem prefetch_Window.mono_l : ∀ k, (∀ y0 y1 y2 y3 y4 y5 y6, LeO (prefetch_Window.j0 k y0 y1 y2 y3 y4 y5 y6) (prefetch_Window.j0 (k + 1) y0 y1 y2 y3 y4 y5 y6)) ∧ (∀ y0 y1 y2 y3 y4 y5, LeO (prefetch_Window.l0 k y0 y1 y2 y3 y4 y5) (prefetch_Window.l0 (k + 1) y0 y1 y2 y3 y4 y5)) ∧ (∀ y0 y1 y2 y3 y4 y5 y6, LeO (prefetch_Window.j2 k y0 y1 y2 y3 y4 y5 y6) (prefetch_Window.j2 (k + 1) y0 y1 y2 y3 y4 y5 y6))
  | 0 => ⟨fun _ _ _ _ _ _ _ r h => by simp [prefetch_Window.j0] at h, fun _ _ _ _ _ _ r h => by simp [prefetch_Window.l0] at h, fun _ _ _ _ _ _ _ r h => by simp [prefetch_Window.j2] at h⟩
  | k + 1 => by
    obtain ⟨ih0, ih1, ih2⟩ := prefetch_Window.mono_l k
    refine ⟨?_, ?_, ?_⟩
    · intro y0 y1 y2 y3 y4 y5 y6
      unfold prefetch_Window.j0
      repeat' first
      | (with_reducible exact ih0 _ _ _ _ _ _ _)
      | (with_reducible exact ih1 _ _ _ _ _ _)
      | (with_reducible exact ih2 _ _ _ _ _ _ _)
      | (with_reducible exact LeO.refl _)
      | (with_reducible exact LeO.none _)
      | (with_reducible refine LeO.ite ?_ ?_)
      | (with_reducible refine LeO.bind ?_ (fun _ => ?_))
      | exact ih0 _ _ _ _ _ _ _
      | exact ih1 _ _ _ _ _ _
      | exact ih2 _ _ _ _ _ _ _
      | exact LeO.none _
      | refine LeO.ite ?_ ?_
      | refine LeO.bind ?_ (fun _ => ?_)
    · intro y0 y1 y2 y3 y4 y5
      unfold prefetch_Window.l0
      repeat' first
      | (with_reducible exact ih0 _ _ _ _ _ _ _)
      | (with_reducible exact ih1 _ _ _ _ _ _)
      | (with_reducible exact ih2 _ _ _ _ _ _ _)
      | (with_reducible exact LeO.refl _)
      | (with_reducible exact LeO.none _)
      | (with_reducible refine LeO.ite ?_ ?_)
      | (with_reducible refine LeO.bind ?_ (fun _ => ?_))
      | exact ih0 _ _ _ _ _ _ _
      | exact ih1 _ _ _ _ _ _
      | exact ih2 _ _ _ _ _ _ _
      | exact LeO.none _
      | refine LeO.ite ?_ ?_
      | refine LeO.bind ?_ (fun _ => ?_)
    · intro y0 y1 y2 y3 y4 y5 y6
      unfold prefetch_Window.j2
      repeat' first
      | (with_reducible exact ih0 _ _ _ _ _ _ _)
      | (with_reducible exact ih1 _ _ _ _ _ _)
      | (with_reducible exact ih2 _ _ _ _ _ _ _)
      | (with_reducible exact LeO.refl _)
      | (with_reducible exact LeO.none _)
      | (with_reducible refine LeO.ite ?_ ?_)
      | (with_reducible refine LeO.bind ?_ (fun _ => ?_))
      | exact ih0 _ _ _ _ _ _ _
      | exact ih1 _ _ _ _ _ _
      | exact ih2 _ _ _ _ _ _ _
      | exact LeO.none _
      | refine LeO.ite ?_ ?_
      | refine LeO.bind ?_ (fun _ => ?_)
theorem prefetch_Window.mono : ∀ a0 a1 a2 a3 a4 a5 a6 k, LeO (prefetch_Window.f k a0 a1 a2 a3 a4 a5 a6) (prefetch_Window.f (k + 1) a0 a1 a2 a3 a4 a5 a6) := by
  intro a0 a1 a2 a3 a4 a5 a6 k
  obtain ⟨ih0, ih1, ih2⟩ := prefetch_Window.mono_l k
  unfold prefetch_Window.f
  repeat' first
      | (with_reducible exact ih0 _ _ _ _ _ _ _)
      | (with_reducible exact ih1 _ _ _ _ _ _)
      | (with_reducible exact ih2 _ _ _ _ _ _ _)
      | (with_reducible exact LeO.refl _)
      | (with_reducible exact LeO.none _)
      | (with_reducible refine LeO.ite ?_ ?_)
      | (with_reducible refine LeO.bind ?_ (fun _ => ?_))
      | exact ih0 _ _ _ _ _ _ _
      | exact ih1 _ _ _ _ _ _
      | exact ih2 _ _ _ _ _ _ _
      | exact LeO.none _
      | refine LeO.ite ?_ ?_
      | refine LeO.bind ?_ (fun _ => ?_)
set_option maxHeartbeats 8000000 in
set_option maxRecDepth 100000 in
theorem prefetch_Window.calls (k : Nat) (a0_0 : (Nat → Int)) (a1 : Int) (a2 : Int) (a3 : Int) (a4 : Int) (a5 : Int) (a6_0 : (Nat → Int)) (r : List Int) (w : World) (h : prefetch_Window.f k a0_0 a1 a2 a3 a4 a5 a6_0 = some r) :
    Calls Try.prog 46 #[.agg (Ag.agC .i64 32 a0_0), .int .i64 a1, .int .i64 a2, .int .i64 a3, .int .i64 a4, .int .i64 a5, .agg (Ag.agC .u64 65 a6_0)] w fun e w' => ∃ v0_ : Value, e = .returned (v0_) ∧ Kd.R (Kd.int .i64) 3 w' w.heap.size (fun _ => True) v0_ r ∧ Below w.heap.size w w' := by
  have hu69 := Try.underlying69
  have hu44 := Try.underlying44
  have HB := Aside0.mk (Below.refl w.heap.size w)
  have H : ((cuts_Count.f a3 a4).bind fun t380 => (if a2 < 0 then (prefetch_Window.j0 k a1 a2 a5 t380 true a0_0 a6_0) else (prefetch_Window.j0 k a1 a2 a5 t380 (decide (a2 ≥ t380)) a0_0 a6_0))) = some r := h
  clear h
  replace H := Option.bind_eq_some_iff.mp H
  obtain ⟨t380, A80, H⟩ := H
  replace H : (if a2 < 0 then (prefetch_Window.j0 k a1 a2 a5 t380 true a0_0 a6_0) else (prefetch_Window.j0 k a1 a2 a5 t380 (decide (a2 ≥ t380)) a0_0 a6_0)) = some r := H
  have A8 := Aside0.mk A80
  clear A80
  have HC9 := Aside0.mk H
  clear H
  go_enter Try.func46, Try.ntmps46
  go_upto_region 2 with (first | ((with_reducible refine gate_dst (N := 7) rfl ?_); refine box_event ?hg (N := 7) ?hd (cs := (Ag.agC .i64 32 a0_0)) (t := 69) ?hr ?_; (case hd => rfl); (case hg => rfl); (case hr => first | (go_simp; done) | (go_simp; rfl)); intro gb378 hg w10 hbox hb; have n0_ := Aside0.mk (below_step (by repeat (first | (with_reducible first | exact HB.out | apply below_alloc | apply pw_below_drewN | apply below_drew1) | exact HB.out)) hb); have n1_ := Aside0.mk (hbox); have n2_ := Aside0.mk ((by rw [hg]; exact (below_size (by repeat (first | (with_reducible first | exact HB.out | apply below_alloc | apply pw_below_drewN | apply below_drew1) | exact HB.out))) : w.heap.size ≤ gb378)); have n3_ := Aside0.mk ((by rw [hg]; exact (below_size (by repeat (first | (with_reducible first | exact HB.out | apply below_alloc | apply pw_below_drewN | apply below_drew1) | exact HB.out))) : w.heap.size ≤ gb378)); clear HB; have HB := n0_; have BK378 := n1_; have GW378 := n2_; have GE378 := n3_; clear n0_ n1_ n2_ n3_; clear hb hbox hg) | ((with_reducible refine gate_dst (N := 13) rfl ?_); refine box_event ?hg (N := 13) ?hd (cs := (Ag.agC .u64 65 a6_0)) (t := 44) ?hr ?_; (case hd => rfl); (case hg => rfl); (case hr => first | (go_simp; done) | (go_simp; rfl)); intro gb379 hg w11 hbox hb; have n0_ := Aside0.mk (blk_below (g := gb378) (o := .cells (Ag.agC .i64 32 a0_0) 69 (0, 0)) (by (with_reducible repeat (first | refine blk_drewN ?_ _ | refine blk_drew ?_ | refine blk_alloc ?_ _)); exact BK378.out) hb); have n1_ := Aside0.mk (below_step (by repeat (first | (with_reducible first | exact HB.out | apply below_alloc | apply pw_below_drewN | apply below_drew1 | refine below_set ?_ GE378.out | refine Ag.row_below ?_ GE378.out) | exact HB.out)) hb); have n2_ := Aside0.mk (hbox); have n3_ := Aside0.mk ((by rw [hg]; exact (below_size (by repeat (first | (with_reducible first | exact HB.out | apply below_alloc | apply pw_below_drewN | apply below_drew1 | refine below_set ?_ GE378.out | refine Ag.row_below ?_ GE378.out) | exact HB.out))) : w.heap.size ≤ gb379)); have n4_ := Aside0.mk ((by rw [hg]; exact (below_size (by repeat (first | (with_reducible first | exact HB.out | apply below_alloc | apply pw_below_drewN | apply below_drew1 | refine below_set ?_ GE378.out | refine Ag.row_below ?_ GE378.out) | exact HB.out))) : w.heap.size ≤ gb379)); have n5_ := Aside0.mk ((by rw [hg]; exact Nat.ne_of_lt (blk_lt (g := gb378) (o := .cells (Ag.agC .i64 32 a0_0) 69 (0, 0)) (by (with_reducible repeat (first | refine blk_drewN ?_ _ | refine blk_drew ?_ | refine blk_alloc ?_ _)); exact BK378.out)) : gb378 ≠ gb379)); have n6_ := Aside0.mk ((by rw [hg]; exact Nat.ne_of_gt (blk_lt (g := gb378) (o := .cells (Ag.agC .i64 32 a0_0) 69 (0, 0)) (by (with_reducible repeat (first | refine blk_drewN ?_ _ | refine blk_drew ?_ | refine blk_alloc ?_ _)); exact BK378.out)) : gb379 ≠ gb378)); clear BK378; clear HB; have BK378 := n0_; have HB := n1_; have BK379 := n2_; have GW379 := n3_; have GE379 := n4_; have NB378_379 := n5_; have NB379_378 := n6_; clear n0_ n1_ n2_ n3_ n4_ n5_ n6_; clear hb hbox hg) | ((with_reducible refine gate_callee (f := 20) rfl ?_); refine goesL_ (some 21) rfl rfl Try.func20 (by kernel_rfl) rfl #[.int .i64 a3, .int .i64 a4] rfl (by (try simp only [List.map_toArray, List.map_cons, List.map_nil]); first | done | rfl | (simp only [List.length_drop, List.length_take]; rfl)) ?_; (with_reducible refine (cuts_Count.calls a3 a4 t380 _ A8.out).mono ?_); rintro e w' ⟨rfl, ⟨nd, rfl⟩⟩; refine ⟨_, rfl, ?_⟩))
  (try simp only [Act.put, List.setIfInBounds_toArray, List.set_cons_zero, List.set_cons_succ])
  go_cut [28] (fun v28 wc => ∃ (kq : Nat) (x28_8 : Bool), v28 = .bool x28_8 ∧ Aside0 (prefetch_Window.j0 kq a1 a2 a5 t380 x28_8 a0_0 a6_0 = some r) ∧ Aside0 (kq ≤ k) ∧ Aside0 (wc.heap[gb378]? = some (.cells (Ag.agC .i64 32 a0_0) 69 (0, 0))) ∧ Aside0 (wc.heap[gb379]? = some (.cells (Ag.agC .u64 65 a6_0) 44 (0, 0))) ∧ Aside0 (Below w.heap.size w wc))
  case first =>
    have H := HC9.out
    clear HC9
    by_cases c12 : a2 < 0
    · rw [if_pos c12] at H
      have c12b0 : decide (a2 < 0) = true := decide_eq_true c12
      clear c12
      (first | rw [c12b0] | (simp only [i64_w, i32_w]; rw [c12b0]) | skip)
      have H' := Aside0.mk H
      clear H
      go_wp2
      go_meet
      case rel => exact ⟨_, (true), (by first | rfl | (simp; done) | (simp [*]; done)), H', ⟨by first | omega | exact Nat.le_refl _⟩, ⟨by (with_reducible repeat (first | refine blk_drewN ?_ _ | refine blk_drew ?_ | refine blk_alloc ?_ _)); exact BK378.out⟩, ⟨by (with_reducible repeat (first | refine blk_drewN ?_ _ | refine blk_drew ?_ | refine blk_alloc ?_ _)); exact BK379.out⟩, ⟨by repeat (first | (with_reducible first | exact HB.out | apply below_alloc | apply pw_below_drewN | apply below_drew1 | refine below_set ?_ GE378.out | refine Ag.row_below ?_ GE378.out | refine below_set ?_ GE379.out | refine Ag.row_below ?_ GE379.out) | exact HB.out)⟩⟩
    · rw [if_neg c12] at H
      have c12b0 : decide (a2 < 0) = false := decide_eq_false c12
      clear c12
      (first | rw [c12b0] | (simp only [i64_w, i32_w]; rw [c12b0]) | skip)
      have H' := Aside0.mk H
      clear H
      go_wp2
      go_meet
      case rel => exact ⟨_, (decide (a2 ≥ t380)), (by first | rfl | (simp; done) | (simp [*]; done)), H', ⟨by first | omega | exact Nat.le_refl _⟩, ⟨by (with_reducible repeat (first | refine blk_drewN ?_ _ | refine blk_drew ?_ | refine blk_alloc ?_ _)); exact BK378.out⟩, ⟨by (with_reducible repeat (first | refine blk_drewN ?_ _ | refine blk_drew ?_ | refine blk_alloc ?_ _)); exact BK379.out⟩, ⟨by repeat (first | (with_reducible first | exact HB.out | apply below_alloc | apply pw_below_drewN | apply below_drew1 | refine below_set ?_ GE378.out | refine Ag.row_below ?_ GE378.out | refine below_set ?_ GE379.out | refine Ag.row_below ?_ GE379.out) | exact HB.out)⟩⟩
  case rest =>
    clear HC9
    try clear c1
    try clear c2
    try clear p2
    try clear c4
    try clear c12
    try clear c12b0
    obtain ⟨kq, x28_8, rfl, HA, HJ8, BK378, BK379, HB⟩ := hcut
    cases kq with
    | zero => exact absurd HA.out (by simp [prefetch_Window.j0])
    | succ kj8 =>
      have H := HA.out
      clear HA
      simp only [prefetch_Window.j0] at H
      by_cases c13 : x28_8 = true
      · subst c13
        have H1 : (some ([] : List Int)) = some r := by rw [if_pos rfl] at H; exact H
        clear H
        have H := H1
        clear H1
        obtain rfl := Option.some.inj H
        go_wp2
        go_ret
        exact ⟨_, by first | rfl | (simp [errW_none, errW_some] <;> rfl) | (simp [*, errW_none, errW_some] <;> rfl), by first | exact Kd.R_nil _ _ _ _ _ | exact Kd.N_nil _ _ _ _ _ | exact Kd.V_nil _ _ _ _ _ | exact Kd.Q_nil _ _ _ _ _ | exact Kd.S_nil _ _ _ _ _, by repeat (first | (with_reducible first | exact HB.out | apply below_alloc | apply pw_below_drewN | apply below_drew1 | refine below_set ?_ GE378.out | refine Ag.row_below ?_ GE378.out | refine below_set ?_ GE379.out | refine Ag.row_below ?_ GE379.out) | exact HB.out)⟩
      · replace c13 := Bool.eq_false_iff.mpr c13
        subst c13
        have H1 : ((prefetch_Track_Row.f a0_0 a1).bind fun t381 => (prefetch_Window.l0 kj8 a2 t380 ([] : List Int) (mx (mn a5 (wrap64 (t381 - 1))) 0) (wrap64 (a2 + 1)) a6_0)) = some r := by rw [if_neg (show ¬ (false = true) by decide)] at H; exact H
        clear H
        have H := H1
        clear H1
        replace H := Option.bind_eq_some_iff.mp H
        obtain ⟨t381, A140, H⟩ := H
        replace H : (prefetch_Window.l0 kj8 a2 t380 ([] : List Int) (mx (mn a5 (wrap64 (t381 - 1))) 0) (wrap64 (a2 + 1)) a6_0) = some r := H
        have A14 := Aside0.mk A140
        clear A140
        obtain ⟨ji15, hji15⟩ : ∃ j_ : Int, (mn a5 (wrap64 (t381 - 1))) = j_ := ⟨_, rfl⟩
        replace H : (prefetch_Window.l0 kj8 a2 t380 ([] : List Int) (mx (ji15) 0) (wrap64 (a2 + 1)) a6_0) = some r := by first | (rw [hji15] at H; exact H) | (simp only [hji15] at H ⊢; exact H)
        (try rw [hji15] at A14)
        have hji15_ : (if (wrap64 (t381 - 1)) < a5 then (wrap64 (t381 - 1)) else a5) = ji15 := hji15
        obtain ⟨ji16, hji16⟩ : ∃ j_ : Int, (mx (ji15) 0) = j_ := ⟨_, rfl⟩
        replace H : (prefetch_Window.l0 kj8 a2 t380 ([] : List Int) ji16 (wrap64 (a2 + 1)) a6_0) = some r := by first | (rw [hji16] at H; exact H) | (simp only [hji16] at H ⊢; exact H)
        (try rw [hji16] at A14)
        have hji16_ : (if (ji15) < 0 then 0 else (ji15)) = ji16 := hji16
        have H' := Aside0.mk H
        clear H
        have hnb17 := NB378_379.out
        have hnc17 := NB379_378.out
        go_wp2_with (first | ((with_reducible refine ag_gate (t := 44) rfl ?_); first | refine row_load rfl 44 _ rfl _ rfl .u64 65 _ 44 _ BK379.out Try.underlying44 rfl Ag.info_map ?_ | refine row_load rfl 44 _ rfl _ rfl .u64 65 _ 44 _ (by first | exact BK379.out | (repeat (first | exact BK379.out | refine blk_far ?_ (by assumption) _ | refine Ag.row_far ?_ (by assumption) _))) Try.underlying44 rfl Ag.info_map ?_) | ((with_reducible refine ag_gate (t := 69) rfl ?_); first | refine row_load rfl 69 _ rfl _ rfl .i64 32 _ 69 _ BK378.out Try.underlying69 rfl Ag.info_trk ?_ | refine row_load rfl 69 _ rfl _ rfl .i64 32 _ 69 _ (by first | exact BK378.out | (repeat (first | exact BK378.out | refine blk_far ?_ (by assumption) _ | refine Ag.row_far ?_ (by assumption) _))) Try.underlying69 rfl Ag.info_trk ?_) | ((with_reducible refine ag_gate_st (t := 44) rfl ?_); first | refine row_store2 rfl 44 _ _ rfl rfl _ rfl .u64 65 _ rfl _ 44 BK379.out Ag.info_map (Ag.agC_size _ _ _) ?_ | refine row_store2 rfl 44 _ _ rfl rfl _ rfl .u64 65 _ rfl _ 44 (by first | exact BK379.out | (repeat (first | exact BK379.out | refine blk_far ?_ (by assumption) _ | refine Ag.row_far ?_ (by assumption) _))) Ag.info_map (Ag.agC_size _ _ _) ?_) | ((with_reducible refine ag_gate_st (t := 69) rfl ?_); first | refine row_store2 rfl 69 _ _ rfl rfl _ rfl .i64 32 _ rfl _ 69 BK378.out Ag.info_trk (Ag.agC_size _ _ _) ?_ | refine row_store2 rfl 69 _ _ rfl rfl _ rfl .i64 32 _ rfl _ 69 (by first | exact BK378.out | (repeat (first | exact BK378.out | refine blk_far ?_ (by assumption) _ | refine Ag.row_far ?_ (by assumption) _))) Ag.info_trk (Ag.agC_size _ _ _) ?_) | ((with_reducible refine gate_callee (f := 47) rfl ?_); refine goesL_ (some 32) rfl rfl Try.func47 (by kernel_rfl) rfl #[.agg (Ag.agC .i64 32 a0_0), .int .i64 a1] rfl (by (try simp only [List.map_toArray, List.map_cons, List.map_nil]); first | done | rfl | (simp only [List.length_drop, List.length_take]; rfl)) ?_; (with_reducible refine (prefetch_Track_Row.calls a0_0 a1 t381 _ A14.out).mono ?_); rintro e w19 ⟨rfl, hb⟩; refine ⟨_, rfl, ?_⟩; have n0_ := Aside0.mk (blk_below (g := gb378) (o := .cells (Ag.agC .i64 32 a0_0) 69 (0, 0)) (by (with_reducible repeat (first | refine blk_drewN ?_ _ | refine blk_drew ?_ | refine blk_alloc ?_ _)); exact BK378.out) hb); have n1_ := Aside0.mk (blk_below (g := gb379) (o := .cells (Ag.agC .u64 65 a6_0) 44 (0, 0)) (by (with_reducible repeat (first | refine blk_drewN ?_ _ | refine blk_drew ?_ | refine blk_alloc ?_ _)); exact BK379.out) hb); have n2_ := Aside0.mk (below_step (by repeat (first | (with_reducible first | exact HB.out | apply below_alloc | apply pw_below_drewN | apply below_drew1 | refine below_set ?_ GE378.out | refine Ag.row_below ?_ GE378.out | refine below_set ?_ GE379.out | refine Ag.row_below ?_ GE379.out) | exact HB.out)) hb); clear BK378; clear BK379; clear HB; have BK378 := n0_; have BK379 := n1_; have HB := n2_; clear n0_ n1_ n2_; (try clear hb); (try clear hb2); (try clear hk); (try clear hi)))
        go_loopg [16, 18] kj8 (fun kq v16 v18 w' => ∃ (x16_2 : List Int) (x18_2 : Int), v18 = .int .i64 x18_2 ∧ Aside0 (prefetch_Window.l0 kq a2 t380 x16_2 ji16 x18_2 a6_0 = some r) ∧ Aside0 (kq ≤ kj8) ∧ Aside0 (Kd.R (Kd.int .i64) 3 w' w.heap.size (fun _ => True) v16 x16_2) ∧ Aside0 (w'.heap[gb378]? = some (.cells (Ag.agC .i64 32 a0_0) 69 (0, 0))) ∧ Aside0 (w'.heap[gb379]? = some (.cells (Ag.agC .u64 65 a6_0) 44 (0, 0))) ∧ Aside0 (Below w.heap.size w w'))
        case atStart => exact ⟨(([] : List Int)), (wrap64 (a2 + 1)), (by first | rfl | (simp; done) | (simp [*]; done)), H', ⟨Nat.le_refl _⟩, ⟨by first | exact Kd.R_nil _ _ _ _ _ | exact Kd.N_nil _ _ _ _ _ | exact Kd.V_nil _ _ _ _ _ | exact Kd.Q_nil _ _ _ _ _ | exact Kd.S_nil _ _ _ _ _⟩, ⟨by (with_reducible repeat (first | refine blk_drewN ?_ _ | refine blk_drew ?_ | refine blk_alloc ?_ _)); exact BK378.out⟩, ⟨by (with_reducible repeat (first | refine blk_drewN ?_ _ | refine blk_drew ?_ | refine blk_alloc ?_ _)); exact BK379.out⟩, ⟨by repeat (first | (with_reducible first | exact HB.out | apply below_alloc | apply pw_below_drewN | apply below_drew1 | refine below_set ?_ GE378.out | refine Ag.row_below ?_ GE378.out | refine below_set ?_ GE379.out | refine Ag.row_below ?_ GE379.out) | exact HB.out)⟩⟩
        case round =>
          clear H'
          try clear c1
          try clear c2
          try clear p2
          try clear c4
          try clear p6
          try clear c12
          try clear c12b0
          try clear c13
          try clear c17
          try clear hcz18_0
          try clear hfz18_0
          try clear p2
          obtain ⟨x16_2, x18_2, rfl, HA, HK2, HO_16, BK378, BK379, HB⟩ := hrel
          cases gk with
          | zero => exact absurd HA.out (by simp [prefetch_Window.l0])
          | succ k2 =>
            have H := HA.out
            clear HA
            simp only [prefetch_Window.l0] at H
            have HC20 := Aside0.mk H
            clear H
            go_upto_region 7 with (fail)
            go_cut [47] (fun v47 wc => ∃ (kq : Nat) (x47_19 : Bool), v47 = .bool x47_19 ∧ Aside0 (prefetch_Window.j2 kq a2 t380 x16_2 ji16 x18_2 x47_19 a6_0 = some r) ∧ Aside0 (kq ≤ k2) ∧ Aside0 (Kd.R (Kd.int .i64) 3 wc w.heap.size (fun _ => True) u16 x16_2) ∧ Aside0 (wc.heap[gb378]? = some (.cells (Ag.agC .i64 32 a0_0) 69 (0, 0))) ∧ Aside0 (wc.heap[gb379]? = some (.cells (Ag.agC .u64 65 a6_0) 44 (0, 0))) ∧ Aside0 (Below w.heap.size w wc))
            case first =>
              have H := HC20.out
              clear HC20
              by_cases c21 : x18_2 < t380
              · rw [if_pos c21] at H
                have c21b0 : decide (x18_2 < t380) = true := decide_eq_true c21
                clear c21
                (first | rw [c21b0] | (simp only [i64_w, i32_w]; rw [c21b0]) | skip)
                have H' := Aside0.mk H
                clear H
                go_wp2_with (first | ((with_reducible refine ag_gate (t := 44) rfl ?_); first | refine row_load rfl 44 _ rfl _ rfl .u64 65 _ 44 _ BK379.out Try.underlying44 rfl Ag.info_map ?_ | refine row_load rfl 44 _ rfl _ rfl .u64 65 _ 44 _ (by first | exact BK379.out | (repeat (first | exact BK379.out | refine blk_far ?_ (by assumption) _ | refine Ag.row_far ?_ (by assumption) _))) Try.underlying44 rfl Ag.info_map ?_) | ((with_reducible refine ag_gate (t := 69) rfl ?_); first | refine row_load rfl 69 _ rfl _ rfl .i64 32 _ 69 _ BK378.out Try.underlying69 rfl Ag.info_trk ?_ | refine row_load rfl 69 _ rfl _ rfl .i64 32 _ 69 _ (by first | exact BK378.out | (repeat (first | exact BK378.out | refine blk_far ?_ (by assumption) _ | refine Ag.row_far ?_ (by assumption) _))) Try.underlying69 rfl Ag.info_trk ?_) | ((with_reducible refine ag_gate_st (t := 44) rfl ?_); first | refine row_store2 rfl 44 _ _ rfl rfl _ rfl .u64 65 _ rfl _ 44 BK379.out Ag.info_map (Ag.agC_size _ _ _) ?_ | refine row_store2 rfl 44 _ _ rfl rfl _ rfl .u64 65 _ rfl _ 44 (by first | exact BK379.out | (repeat (first | exact BK379.out | refine blk_far ?_ (by assumption) _ | refine Ag.row_far ?_ (by assumption) _))) Ag.info_map (Ag.agC_size _ _ _) ?_) | ((with_reducible refine ag_gate_st (t := 69) rfl ?_); first | refine row_store2 rfl 69 _ _ rfl rfl _ rfl .i64 32 _ rfl _ 69 BK378.out Ag.info_trk (Ag.agC_size _ _ _) ?_ | refine row_store2 rfl 69 _ _ rfl rfl _ rfl .i64 32 _ rfl _ 69 (by first | exact BK378.out | (repeat (first | exact BK378.out | refine blk_far ?_ (by assumption) _ | refine Ag.row_far ?_ (by assumption) _))) Ag.info_trk (Ag.agC_size _ _ _) ?_))
                go_meet
                case rel => exact ⟨_, (decide ((wrap64 (x18_2 - a2)) ≤ ji16)), (by first | rfl | (simp; done) | (simp only [← hji16] <;> (first | rfl | simp)) | (simp [*]; done)), H', ⟨by have := HJ8.out; have := HK2.out; first | omega | exact Nat.le_refl _⟩, ⟨by (with_reducible repeat (first | apply Kd.R_alloc | apply Kd.R_drewN | apply Kd.R_drew)); exact HO_16.out⟩, ⟨by (with_reducible repeat (first | refine blk_drewN ?_ _ | refine blk_drew ?_ | refine blk_alloc ?_ _)); exact BK378.out⟩, ⟨by (with_reducible repeat (first | refine blk_drewN ?_ _ | refine blk_drew ?_ | refine blk_alloc ?_ _)); exact BK379.out⟩, ⟨by repeat (first | (with_reducible first | exact HB.out | apply below_alloc | apply pw_below_drewN | apply below_drew1 | refine below_set ?_ GE378.out | refine Ag.row_below ?_ GE378.out | refine below_set ?_ GE379.out | refine Ag.row_below ?_ GE379.out) | exact HB.out)⟩⟩
              · rw [if_neg c21] at H
                have c21b0 : decide (x18_2 < t380) = false := decide_eq_false c21
                clear c21
                (first | rw [c21b0] | (simp only [i64_w, i32_w]; rw [c21b0]) | skip)
                have H' := Aside0.mk H
                clear H
                go_wp2_with (first | ((with_reducible refine ag_gate (t := 44) rfl ?_); first | refine row_load rfl 44 _ rfl _ rfl .u64 65 _ 44 _ BK379.out Try.underlying44 rfl Ag.info_map ?_ | refine row_load rfl 44 _ rfl _ rfl .u64 65 _ 44 _ (by first | exact BK379.out | (repeat (first | exact BK379.out | refine blk_far ?_ (by assumption) _ | refine Ag.row_far ?_ (by assumption) _))) Try.underlying44 rfl Ag.info_map ?_) | ((with_reducible refine ag_gate (t := 69) rfl ?_); first | refine row_load rfl 69 _ rfl _ rfl .i64 32 _ 69 _ BK378.out Try.underlying69 rfl Ag.info_trk ?_ | refine row_load rfl 69 _ rfl _ rfl .i64 32 _ 69 _ (by first | exact BK378.out | (repeat (first | exact BK378.out | refine blk_far ?_ (by assumption) _ | refine Ag.row_far ?_ (by assumption) _))) Try.underlying69 rfl Ag.info_trk ?_) | ((with_reducible refine ag_gate_st (t := 44) rfl ?_); first | refine row_store2 rfl 44 _ _ rfl rfl _ rfl .u64 65 _ rfl _ 44 BK379.out Ag.info_map (Ag.agC_size _ _ _) ?_ | refine row_store2 rfl 44 _ _ rfl rfl _ rfl .u64 65 _ rfl _ 44 (by first | exact BK379.out | (repeat (first | exact BK379.out | refine blk_far ?_ (by assumption) _ | refine Ag.row_far ?_ (by assumption) _))) Ag.info_map (Ag.agC_size _ _ _) ?_) | ((with_reducible refine ag_gate_st (t := 69) rfl ?_); first | refine row_store2 rfl 69 _ _ rfl rfl _ rfl .i64 32 _ rfl _ 69 BK378.out Ag.info_trk (Ag.agC_size _ _ _) ?_ | refine row_store2 rfl 69 _ _ rfl rfl _ rfl .i64 32 _ rfl _ 69 (by first | exact BK378.out | (repeat (first | exact BK378.out | refine blk_far ?_ (by assumption) _ | refine Ag.row_far ?_ (by assumption) _))) Ag.info_trk (Ag.agC_size _ _ _) ?_))
                go_meet
                case rel => exact ⟨_, (false), (by first | rfl | (simp; done) | (simp [*]; done)), H', ⟨by have := HJ8.out; have := HK2.out; first | omega | exact Nat.le_refl _⟩, ⟨by (with_reducible repeat (first | apply Kd.R_alloc | apply Kd.R_drewN | apply Kd.R_drew)); exact HO_16.out⟩, ⟨by (with_reducible repeat (first | refine blk_drewN ?_ _ | refine blk_drew ?_ | refine blk_alloc ?_ _)); exact BK378.out⟩, ⟨by (with_reducible repeat (first | refine blk_drewN ?_ _ | refine blk_drew ?_ | refine blk_alloc ?_ _)); exact BK379.out⟩, ⟨by repeat (first | (with_reducible first | exact HB.out | apply below_alloc | apply pw_below_drewN | apply below_drew1 | refine below_set ?_ GE378.out | refine Ag.row_below ?_ GE378.out | refine below_set ?_ GE379.out | refine Ag.row_below ?_ GE379.out) | exact HB.out)⟩⟩
            case rest =>
              clear HC20
              try clear c1
              try clear c2
              try clear p2
              try clear c4
              try clear p6
              try clear c12
              try clear c12b0
              try clear c13
              try clear c17
              try clear c20
              try clear c21
              try clear c21b0
              try clear hcz18_0
              try clear hfz18_0
              try clear p2
              try clear p6
              obtain ⟨kq, x47_19, rfl, HA, HJ19, HO_16, BK378, BK379, HB⟩ := hcut
              cases kq with
              | zero => exact absurd HA.out (by simp [prefetch_Window.j2])
              | succ kj19 =>
                have H := HA.out
                clear HA
                simp only [prefetch_Window.j2] at H
                by_cases c22 : x47_19 = true
                · subst c22
                  have H1 : ((bitmap_Map_Has.f a6_0 x18_2).bind fun t382 => (if t382 = true then (prefetch_Window.l0 kj19 a2 t380 x16_2 ji16 (wrap64 (x18_2 + 1)) a6_0) else (if x16_2.length < 17592186044416 then (prefetch_Window.l0 kj19 a2 t380 (x16_2 ++ [x18_2]) ji16 (wrap64 (x18_2 + 1)) a6_0) else (none)))) = some r := by rw [if_pos rfl] at H; exact H
                  clear H
                  have H := H1
                  clear H1
                  replace H := Option.bind_eq_some_iff.mp H
                  obtain ⟨t382, A230, H⟩ := H
                  replace H : (if t382 = true then (prefetch_Window.l0 kj19 a2 t380 x16_2 ji16 (wrap64 (x18_2 + 1)) a6_0) else (if x16_2.length < 17592186044416 then (prefetch_Window.l0 kj19 a2 t380 (x16_2 ++ [x18_2]) ji16 (wrap64 (x18_2 + 1)) a6_0) else (none))) = some r := H
                  have A23 := Aside0.mk A230
                  clear A230
                  by_cases c24 : t382 = true
                  · subst c24
                    have H1 : (prefetch_Window.l0 kj19 a2 t380 x16_2 ji16 (wrap64 (x18_2 + 1)) a6_0) = some r := by rw [if_pos rfl] at H; exact H
                    clear H
                    have H := H1
                    clear H1
                    have H' := Aside0.mk H
                    clear H
                    have hnb25 := NB379_378.out
                    have hnc25 := NB378_379.out
                    go_wp2_with (first | ((with_reducible refine ag_gate (t := 44) rfl ?_); first | refine row_load rfl 44 _ rfl _ rfl .u64 65 _ 44 _ BK379.out Try.underlying44 rfl Ag.info_map ?_ | refine row_load rfl 44 _ rfl _ rfl .u64 65 _ 44 _ (by first | exact BK379.out | (repeat (first | exact BK379.out | refine blk_far ?_ (by assumption) _ | refine Ag.row_far ?_ (by assumption) _))) Try.underlying44 rfl Ag.info_map ?_) | ((with_reducible refine ag_gate (t := 69) rfl ?_); first | refine row_load rfl 69 _ rfl _ rfl .i64 32 _ 69 _ BK378.out Try.underlying69 rfl Ag.info_trk ?_ | refine row_load rfl 69 _ rfl _ rfl .i64 32 _ 69 _ (by first | exact BK378.out | (repeat (first | exact BK378.out | refine blk_far ?_ (by assumption) _ | refine Ag.row_far ?_ (by assumption) _))) Try.underlying69 rfl Ag.info_trk ?_) | ((with_reducible refine ag_gate_st (t := 44) rfl ?_); first | refine row_store2 rfl 44 _ _ rfl rfl _ rfl .u64 65 _ rfl _ 44 BK379.out Ag.info_map (Ag.agC_size _ _ _) ?_ | refine row_store2 rfl 44 _ _ rfl rfl _ rfl .u64 65 _ rfl _ 44 (by first | exact BK379.out | (repeat (first | exact BK379.out | refine blk_far ?_ (by assumption) _ | refine Ag.row_far ?_ (by assumption) _))) Ag.info_map (Ag.agC_size _ _ _) ?_) | ((with_reducible refine ag_gate_st (t := 69) rfl ?_); first | refine row_store2 rfl 69 _ _ rfl rfl _ rfl .i64 32 _ rfl _ 69 BK378.out Ag.info_trk (Ag.agC_size _ _ _) ?_ | refine row_store2 rfl 69 _ _ rfl rfl _ rfl .i64 32 _ rfl _ 69 (by first | exact BK378.out | (repeat (first | exact BK378.out | refine blk_far ?_ (by assumption) _ | refine Ag.row_far ?_ (by assumption) _))) Ag.info_trk (Ag.agC_size _ _ _) ?_) | ((with_reducible refine gate_callee (f := 31) rfl ?_); refine goesL_ (some 52) rfl rfl Try.func31 (by kernel_rfl) rfl #[.agg (Ag.agC .u64 65 a6_0), .int .i64 x18_2] rfl (by (try simp only [List.map_toArray, List.map_cons, List.map_nil]); first | done | rfl | (simp only [List.length_drop, List.length_take]; rfl)) ?_; (with_reducible refine (bitmap_Map_Has.calls a6_0 x18_2 true _ A23.out).mono ?_); rintro e w27 ⟨rfl, hb⟩; refine ⟨_, rfl, ?_⟩; have n0_ := Aside0.mk (Kd.R_below (by (with_reducible repeat (first | apply Kd.R_alloc | apply Kd.R_drewN | apply Kd.R_drew)); exact HO_16.out) hb); have n1_ := Aside0.mk (blk_below (g := gb378) (o := .cells (Ag.agC .i64 32 a0_0) 69 (0, 0)) (by (with_reducible repeat (first | refine blk_drewN ?_ _ | refine blk_drew ?_ | refine blk_alloc ?_ _)); exact BK378.out) hb); have n2_ := Aside0.mk (blk_below (g := gb379) (o := .cells (Ag.agC .u64 65 a6_0) 44 (0, 0)) (by (with_reducible repeat (first | refine blk_drewN ?_ _ | refine blk_drew ?_ | refine blk_alloc ?_ _)); exact BK379.out) hb); have n3_ := Aside0.mk (below_step (by repeat (first | (with_reducible first | exact HB.out | apply below_alloc | apply pw_below_drewN | apply below_drew1 | refine below_set ?_ GE378.out | refine Ag.row_below ?_ GE378.out | refine below_set ?_ GE379.out | refine Ag.row_below ?_ GE379.out) | exact HB.out)) hb); clear HO_16; clear BK378; clear BK379; clear HB; have HO_16 := n0_; have BK378 := n1_; have BK379 := n2_; have HB := n3_; clear n0_ n1_ n2_ n3_; (try clear hb); (try clear hb2); (try clear hk); (try clear hi)))
                    go_roundg kj19
                    case measure => have := HJ8.out; have := HK2.out; have := HJ19.out; omega
                    case rel => exact ⟨(x16_2), (wrap64 (x18_2 + 1)), (by first | rfl | (simp; done) | (simp [*]; done)), H', ⟨by have := HJ8.out; have := HK2.out; have := HJ19.out; omega⟩, ⟨by (with_reducible repeat (first | apply Kd.R_alloc | apply Kd.R_drewN | apply Kd.R_drew)); exact HO_16.out⟩, ⟨by (with_reducible repeat (first | refine blk_drewN ?_ _ | refine blk_drew ?_ | refine blk_alloc ?_ _)); exact BK378.out⟩, ⟨by (with_reducible repeat (first | refine blk_drewN ?_ _ | refine blk_drew ?_ | refine blk_alloc ?_ _)); exact BK379.out⟩, ⟨by repeat (first | (with_reducible first | exact HB.out | apply below_alloc | apply pw_below_drewN | apply below_drew1 | refine below_set ?_ GE378.out | refine Ag.row_below ?_ GE378.out | refine below_set ?_ GE379.out | refine Ag.row_below ?_ GE379.out) | exact HB.out)⟩⟩
                  · replace c24 := Bool.eq_false_iff.mpr c24
                    subst c24
                    have H1 : (if x16_2.length < 17592186044416 then (prefetch_Window.l0 kj19 a2 t380 (x16_2 ++ [x18_2]) ji16 (wrap64 (x18_2 + 1)) a6_0) else (none)) = some r := by rw [if_neg (show ¬ (false = true) by decide)] at H; exact H
                    clear H
                    have H := H1
                    clear H1
                    by_cases c28 : x16_2.length < 17592186044416
                    · rw [if_pos c28] at H
                      have LMc28 := Aside0.mk c28
                      clear c28
                      obtain ⟨y383, hy383⟩ : ∃ y_ : List Int, y_ = (x16_2 ++ [x18_2]) := ⟨_, rfl⟩
                      replace H : (prefetch_Window.l0 kj19 a2 t380 y383 ji16 (wrap64 (x18_2 + 1)) a6_0) = some r := by first | (rw [hy383]; with_reducible exact H) | (have H2_ := (Option.bind_some _ _).symm.trans H; rw [hy383]; with_reducible exact H2_) | (have H2_ := (Option.bind_some _ _).symm.trans H; with_reducible exact H2_) | with_reducible exact H | (rw [hy383]; exact H) | exact H
                      have Ny383 := Aside0.mk hy383
                      clear hy383
                      have H' := Aside0.mk H
                      clear H
                      have hnb29 := NB379_378.out
                      have hnc29 := NB378_379.out
                      go_wp2_with (first | ((with_reducible refine ag_gate (t := 44) rfl ?_); first | refine row_load rfl 44 _ rfl _ rfl .u64 65 _ 44 _ BK379.out Try.underlying44 rfl Ag.info_map ?_ | refine row_load rfl 44 _ rfl _ rfl .u64 65 _ 44 _ (by first | exact BK379.out | (repeat (first | exact BK379.out | refine blk_far ?_ (by assumption) _ | refine Ag.row_far ?_ (by assumption) _))) Try.underlying44 rfl Ag.info_map ?_) | ((with_reducible refine ag_gate (t := 69) rfl ?_); first | refine row_load rfl 69 _ rfl _ rfl .i64 32 _ 69 _ BK378.out Try.underlying69 rfl Ag.info_trk ?_ | refine row_load rfl 69 _ rfl _ rfl .i64 32 _ 69 _ (by first | exact BK378.out | (repeat (first | exact BK378.out | refine blk_far ?_ (by assumption) _ | refine Ag.row_far ?_ (by assumption) _))) Try.underlying69 rfl Ag.info_trk ?_) | ((with_reducible refine ag_gate_st (t := 44) rfl ?_); first | refine row_store2 rfl 44 _ _ rfl rfl _ rfl .u64 65 _ rfl _ 44 BK379.out Ag.info_map (Ag.agC_size _ _ _) ?_ | refine row_store2 rfl 44 _ _ rfl rfl _ rfl .u64 65 _ rfl _ 44 (by first | exact BK379.out | (repeat (first | exact BK379.out | refine blk_far ?_ (by assumption) _ | refine Ag.row_far ?_ (by assumption) _))) Ag.info_map (Ag.agC_size _ _ _) ?_) | ((with_reducible refine ag_gate_st (t := 69) rfl ?_); first | refine row_store2 rfl 69 _ _ rfl rfl _ rfl .i64 32 _ rfl _ 69 BK378.out Ag.info_trk (Ag.agC_size _ _ _) ?_ | refine row_store2 rfl 69 _ _ rfl rfl _ rfl .i64 32 _ rfl _ 69 (by first | exact BK378.out | (repeat (first | exact BK378.out | refine blk_far ?_ (by assumption) _ | refine Ag.row_far ?_ (by assumption) _))) Ag.info_trk (Ag.agC_size _ _ _) ?_) | ((with_reducible refine gate_callee (f := 31) rfl ?_); refine goesL_ (some 52) rfl rfl Try.func31 (by kernel_rfl) rfl #[.agg (Ag.agC .u64 65 a6_0), .int .i64 x18_2] rfl (by (try simp only [List.map_toArray, List.map_cons, List.map_nil]); first | done | rfl | (simp only [List.length_drop, List.length_take]; rfl)) ?_; (with_reducible refine (bitmap_Map_Has.calls a6_0 x18_2 false _ A23.out).mono ?_); rintro e w31 ⟨rfl, hb⟩; refine ⟨_, rfl, ?_⟩; have n0_ := Aside0.mk (Kd.R_below (by (with_reducible repeat (first | apply Kd.R_alloc | apply Kd.R_drewN | apply Kd.R_drew)); exact HO_16.out) hb); have n1_ := Aside0.mk (blk_below (g := gb378) (o := .cells (Ag.agC .i64 32 a0_0) 69 (0, 0)) (by (with_reducible repeat (first | refine blk_drewN ?_ _ | refine blk_drew ?_ | refine blk_alloc ?_ _)); exact BK378.out) hb); have n2_ := Aside0.mk (blk_below (g := gb379) (o := .cells (Ag.agC .u64 65 a6_0) 44 (0, 0)) (by (with_reducible repeat (first | refine blk_drewN ?_ _ | refine blk_drew ?_ | refine blk_alloc ?_ _)); exact BK379.out) hb); have n3_ := Aside0.mk (below_step (by repeat (first | (with_reducible first | exact HB.out | apply below_alloc | apply pw_below_drewN | apply below_drew1 | refine below_set ?_ GE378.out | refine Ag.row_below ?_ GE378.out | refine below_set ?_ GE379.out | refine Ag.row_below ?_ GE379.out) | exact HB.out)) hb); clear HO_16; clear BK378; clear BK379; clear HB; have HO_16 := n0_; have BK378 := n1_; have BK379 := n2_; have HB := n3_; clear n0_ n1_ n2_ n3_; (try clear hb); (try clear hb2); (try clear hk); (try clear hi)) | ((with_reducible refine gate_builtin (b := .append) (xs := #[.tmp 54, .tmp 56]) rfl ?_); at_builtin; refine Kd.R_append (Kd.int .i64) (w0 := w) w.heap.size rfl (.tmp 54) (.tmp 56) 22 3 (.int .i64 0) 8 rfl Try.underlying22 info3 rfl (by decide) (by omega) u16 x16_2 x18_2 [.int .i64 x18_2] (fun _ => True) (fun _ => False) rfl rfl ?aP (fun _ hk => hk.elim) ?aF ?aO ?aB ?aS ?aL ?_; (case aP => exact rfl); (case aB => exact (by repeat (first | (with_reducible first | exact HB.out | apply below_alloc | apply pw_below_drewN | apply below_drew1 | refine below_set ?_ GE378.out | refine Ag.row_below ?_ GE378.out | refine below_set ?_ GE379.out | refine Ag.row_below ?_ GE379.out) | exact HB.out))); (case aF => exact (fun _ _ => trivial)); (case aO => exact (by (with_reducible repeat (first | apply Kd.R_alloc | apply Kd.R_drewN | apply Kd.R_drew)); exact HO_16.out)); (case aS => exact (below_size (by repeat (first | (with_reducible first | exact HB.out | apply below_alloc | apply pw_below_drewN | apply below_drew1 | refine below_set ?_ GE378.out | refine Ag.row_below ?_ GE378.out | refine below_set ?_ GE379.out | refine Ag.row_below ?_ GE379.out) | exact HB.out)))); (case aL => have := LMc28.out; omega); intro v384 w32 ho hb hg hat; rw [← Ny383.out] at ho; have n0_ := Aside0.mk (blk_grown (g := gb378) (o := .cells (Ag.agC .i64 32 a0_0) 69 (0, 0)) (by (with_reducible repeat (first | refine blk_drewN ?_ _ | refine blk_drew ?_ | refine blk_alloc ?_ _)); exact BK378.out) hg (Kd.R_ne HO_16.out BK378.out (by decide))); have n1_ := Aside0.mk (blk_grown (g := gb379) (o := .cells (Ag.agC .u64 65 a6_0) 44 (0, 0)) (by (with_reducible repeat (first | refine blk_drewN ?_ _ | refine blk_drew ?_ | refine blk_alloc ?_ _)); exact BK379.out) hg (Kd.R_ne HO_16.out BK379.out (by decide))); have n2_ := Aside0.mk (hb); have n3_ := Aside0.mk (ho); clear BK378; clear BK379; clear HB; clear HO_16; have BK378 := n0_; have BK379 := n1_; have HB := n2_; have HO385 := n3_; clear n0_ n1_ n2_ n3_; clear ho hb hg hat))
                      go_roundg kj19
                      case measure => have := HJ8.out; have := HK2.out; have := HJ19.out; omega
                      case rel => exact ⟨(y383), (wrap64 (x18_2 + 1)), (by first | rfl | (simp; done) | (simp [*]; done)), H', ⟨by have := HJ8.out; have := HK2.out; have := HJ19.out; omega⟩, ⟨by (with_reducible repeat (first | apply Kd.R_alloc | apply Kd.R_drewN | apply Kd.R_drew)); exact HO385.out⟩, ⟨by (with_reducible repeat (first | refine blk_drewN ?_ _ | refine blk_drew ?_ | refine blk_alloc ?_ _)); exact BK378.out⟩, ⟨by (with_reducible repeat (first | refine blk_drewN ?_ _ | refine blk_drew ?_ | refine blk_alloc ?_ _)); exact BK379.out⟩, ⟨by repeat (first | (with_reducible first | exact HB.out | apply below_alloc | apply pw_below_drewN | apply below_drew1 | refine below_set ?_ GE378.out | refine Ag.row_below ?_ GE378.out | refine below_set ?_ GE379.out | refine Ag.row_below ?_ GE379.out) | exact HB.out)⟩⟩
                    · rw [if_neg c28] at H
                      exact absurd H (by simp)
                · replace c22 := Bool.eq_false_iff.mpr c22
                  subst c22
                  have H1 : (some x16_2) = some r := by rw [if_neg (show ¬ (false = true) by decide)] at H; exact H
                  clear H
                  have H := H1
                  clear H1
                  obtain rfl := Option.some.inj H
                  go_wp2_with (first | ((with_reducible refine ag_gate (t := 44) rfl ?_); first | refine row_load rfl 44 _ rfl _ rfl .u64 65 _ 44 _ BK379.out Try.underlying44 rfl Ag.info_map ?_ | refine row_load rfl 44 _ rfl _ rfl .u64 65 _ 44 _ (by first | exact BK379.out | (repeat (first | exact BK379.out | refine blk_far ?_ (by assumption) _ | refine Ag.row_far ?_ (by assumption) _))) Try.underlying44 rfl Ag.info_map ?_) | ((with_reducible refine ag_gate (t := 69) rfl ?_); first | refine row_load rfl 69 _ rfl _ rfl .i64 32 _ 69 _ BK378.out Try.underlying69 rfl Ag.info_trk ?_ | refine row_load rfl 69 _ rfl _ rfl .i64 32 _ 69 _ (by first | exact BK378.out | (repeat (first | exact BK378.out | refine blk_far ?_ (by assumption) _ | refine Ag.row_far ?_ (by assumption) _))) Try.underlying69 rfl Ag.info_trk ?_) | ((with_reducible refine ag_gate_st (t := 44) rfl ?_); first | refine row_store2 rfl 44 _ _ rfl rfl _ rfl .u64 65 _ rfl _ 44 BK379.out Ag.info_map (Ag.agC_size _ _ _) ?_ | refine row_store2 rfl 44 _ _ rfl rfl _ rfl .u64 65 _ rfl _ 44 (by first | exact BK379.out | (repeat (first | exact BK379.out | refine blk_far ?_ (by assumption) _ | refine Ag.row_far ?_ (by assumption) _))) Ag.info_map (Ag.agC_size _ _ _) ?_) | ((with_reducible refine ag_gate_st (t := 69) rfl ?_); first | refine row_store2 rfl 69 _ _ rfl rfl _ rfl .i64 32 _ rfl _ 69 BK378.out Ag.info_trk (Ag.agC_size _ _ _) ?_ | refine row_store2 rfl 69 _ _ rfl rfl _ rfl .i64 32 _ rfl _ 69 (by first | exact BK378.out | (repeat (first | exact BK378.out | refine blk_far ?_ (by assumption) _ | refine Ag.row_far ?_ (by assumption) _))) Ag.info_trk (Ag.agC_size _ _ _) ?_))
                  go_ret
                  exact ⟨_, by first | rfl | (simp [errW_none, errW_some] <;> rfl) | (simp only [← hji15, ← hji16]; first | rfl | (simp [errW_none, errW_some] <;> rfl)) | (simp [*, errW_none, errW_some] <;> rfl), by (with_reducible repeat (first | apply Kd.R_alloc | apply Kd.R_drewN | apply Kd.R_drew)); exact HO_16.out, by repeat (first | (with_reducible first | exact HB.out | apply below_alloc | apply pw_below_drewN | apply below_drew1 | refine below_set ?_ GE378.out | refine Ag.row_below ?_ GE378.out | refine below_set ?_ GE379.out | refine Ag.row_below ?_ GE379.out) | exact HB.out)⟩
def spencelaw29_awake.f (k : Nat)  : Option (Bool) := (prefetch_New.f).bind fun t386 => ((prefetch_Track_Note.f t386 1 0 1).bind fun t387 => ((prefetch_Track_Note.f t387 1 1 2).bind fun t388 => ((bitmap_Of.f ([] : List Int)).bind fun t390 => ((prefetch_Window.f k t388 1 1 40 4 3 t390).bind fun t391 => ((prefetch_Track_Row.f t388 1).bind fun t394 => (if t394 = 2 then ((spenceref01_Ints.f k t391 (([2] : List Int))).bind fun t398 => (some t398)) else (some false)))))))
theorem spencelaw29_awake.mono : ∀ k, LeO (spencelaw29_awake.f k ) (spencelaw29_awake.f (k + 1) ) := by
  intro  k
  unfold spencelaw29_awake.f
  repeat' first
      | (with_reducible exact prefetch_Window.mono _ _ _ _ _ _ _ _)
      | (with_reducible exact spenceref01_Ints.mono _ _ _)
      | (with_reducible exact LeO.refl _)
      | (with_reducible exact LeO.none _)
      | (with_reducible refine LeO.ite ?_ ?_)
      | (with_reducible refine LeO.bind ?_ (fun _ => ?_))
      | exact prefetch_Window.mono _ _ _ _ _ _ _ _
      | exact spenceref01_Ints.mono _ _ _
      | exact LeO.none _
      | refine LeO.ite ?_ ?_
      | refine LeO.bind ?_ (fun _ => ?_)
set_option maxHeartbeats 8000000 in
set_option maxRecDepth 100000 in
theorem spencelaw29_awake.calls (k : Nat)  (r : Bool) (w : World) (h : spencelaw29_awake.f k  = some r) :
    Calls Try.prog 43 #[] w fun e w' => e = .returned (.bool r) ∧ Below w.heap.size w w' := by
  have hu69 := Try.underlying69
  have HB := Aside0.mk (Below.refl w.heap.size w)
  have H : ((prefetch_New.f).bind fun t386 => ((prefetch_Track_Note.f t386 1 0 1).bind fun t387 => ((prefetch_Track_Note.f t387 1 1 2).bind fun t388 => ((bitmap_Of.f ([] : List Int)).bind fun t390 => ((prefetch_Window.f k t388 1 1 40 4 3 t390).bind fun t391 => ((prefetch_Track_Row.f t388 1).bind fun t394 => (if t394 = 2 then ((spenceref01_Ints.f k t391 (([2] : List Int))).bind fun t398 => (some t398)) else (some false)))))))) = some r := h
  clear h
  replace H := Option.bind_eq_some_iff.mp H
  obtain ⟨t386, A10, H⟩ := H
  replace H : ((prefetch_Track_Note.f t386 1 0 1).bind fun t387 => ((prefetch_Track_Note.f t387 1 1 2).bind fun t388 => ((bitmap_Of.f ([] : List Int)).bind fun t390 => ((prefetch_Window.f k t388 1 1 40 4 3 t390).bind fun t391 => ((prefetch_Track_Row.f t388 1).bind fun t394 => (if t394 = 2 then ((spenceref01_Ints.f k t391 (([2] : List Int))).bind fun t398 => (some t398)) else (some false))))))) = some r := H
  have A1 := Aside0.mk A10
  clear A10
  replace H := Option.bind_eq_some_iff.mp H
  obtain ⟨t387, A20, H⟩ := H
  replace H : ((prefetch_Track_Note.f t387 1 1 2).bind fun t388 => ((bitmap_Of.f ([] : List Int)).bind fun t390 => ((prefetch_Window.f k t388 1 1 40 4 3 t390).bind fun t391 => ((prefetch_Track_Row.f t388 1).bind fun t394 => (if t394 = 2 then ((spenceref01_Ints.f k t391 (([2] : List Int))).bind fun t398 => (some t398)) else (some false)))))) = some r := H
  have A2 := Aside0.mk A20
  clear A20
  replace H := Option.bind_eq_some_iff.mp H
  obtain ⟨t388, A30, H⟩ := H
  replace H : ((bitmap_Of.f ([] : List Int)).bind fun t390 => ((prefetch_Window.f k t388 1 1 40 4 3 t390).bind fun t391 => ((prefetch_Track_Row.f t388 1).bind fun t394 => (if t394 = 2 then ((spenceref01_Ints.f k t391 (([2] : List Int))).bind fun t398 => (some t398)) else (some false))))) = some r := H
  have A3 := Aside0.mk A30
  clear A30
  replace H := Option.bind_eq_some_iff.mp H
  obtain ⟨t390, A40, H⟩ := H
  replace H : ((prefetch_Window.f k t388 1 1 40 4 3 t390).bind fun t391 => ((prefetch_Track_Row.f t388 1).bind fun t394 => (if t394 = 2 then ((spenceref01_Ints.f k t391 (([2] : List Int))).bind fun t398 => (some t398)) else (some false)))) = some r := H
  have A4 := Aside0.mk A40
  clear A40
  replace H := Option.bind_eq_some_iff.mp H
  obtain ⟨t391, A50, H⟩ := H
  replace H : ((prefetch_Track_Row.f t388 1).bind fun t394 => (if t394 = 2 then ((spenceref01_Ints.f k t391 (([2] : List Int))).bind fun t398 => (some t398)) else (some false))) = some r := H
  have A5 := Aside0.mk A50
  clear A50
  replace H := Option.bind_eq_some_iff.mp H
  obtain ⟨t394, A60, H⟩ := H
  replace H : (if t394 = 2 then ((spenceref01_Ints.f k t391 (([2] : List Int))).bind fun t398 => (some t398)) else (some false)) = some r := H
  have A6 := Aside0.mk A60
  clear A60
  by_cases c7 : t394 = 2
  · rw [if_pos c7] at H
    have c7b0 : (t394 == 2) = true := beq_iff_eq.mpr c7
    have c7b1 : (t394 != 2) = false := bne_eq_false_iff_eq.mpr c7
    clear c7
    obtain ⟨y395, hy395⟩ : ∃ y_ : List Int, y_ = (([2] : List Int)) := ⟨_, rfl⟩
    replace H : ((spenceref01_Ints.f k t391 y395).bind fun t398 => (some t398)) = some r := by first | (rw [hy395]; with_reducible exact H) | (have H2_ := (Option.bind_some _ _).symm.trans H; rw [hy395]; with_reducible exact H2_) | (have H2_ := (Option.bind_some _ _).symm.trans H; with_reducible exact H2_) | with_reducible exact H | (rw [hy395]; exact H) | exact H
    have Ny395 := Aside0.mk hy395
    clear hy395
    replace H := Option.bind_eq_some_iff.mp H
    obtain ⟨t398, A80, H⟩ := H
    replace H : (some t398) = some r := H
    have A8 := Aside0.mk A80
    clear A80
    obtain rfl := Option.some.inj H
    go_enter Try.func43, Try.ntmps43
    try go_wp2_with (first | ((with_reducible refine ag_gate (t := 69) rfl ?_); first | refine row_load rfl 69 _ rfl _ rfl .i64 32 _ 69 _ BK389.out Try.underlying69 rfl Ag.info_trk ?_ | refine row_load rfl 69 _ rfl _ rfl .i64 32 _ 69 _ (by first | exact BK389.out | (repeat (first | exact BK389.out | refine blk_far ?_ (by assumption) _ | refine Ag.row_far ?_ (by assumption) _))) Try.underlying69 rfl Ag.info_trk ?_) | ((with_reducible refine ag_gate_st (t := 69) rfl ?_); first | refine row_store2 rfl 69 _ _ rfl rfl _ rfl .i64 32 _ rfl _ 69 BK389.out Ag.info_trk (Ag.agC_size _ _ _) ?_ | refine row_store2 rfl 69 _ _ rfl rfl _ rfl .i64 32 _ rfl _ 69 (by first | exact BK389.out | (repeat (first | exact BK389.out | refine blk_far ?_ (by assumption) _ | refine Ag.row_far ?_ (by assumption) _))) Ag.info_trk (Ag.agC_size _ _ _) ?_) | ((with_reducible refine gate_callee (f := 44) rfl ?_); refine goesL_ (some 3) rfl rfl Try.func44 (by kernel_rfl) rfl #[] rfl (by (try simp only [List.map_toArray, List.map_cons, List.map_nil]); first | done | rfl | (simp only [List.length_drop, List.length_take]; rfl)) ?_; (with_reducible refine (prefetch_New.calls  t386 _ A1.out).mono ?_); rintro e w9 ⟨rfl, hb⟩; refine ⟨_, rfl, ?_⟩; have n0_ := Aside0.mk (below_step (by repeat (first | (with_reducible first | exact HB.out | apply below_alloc | apply pw_below_drewN | apply below_drew1) | exact HB.out)) hb); clear HB; have HB := n0_; clear n0_; (try clear hb); (try clear hb2); (try clear hk); (try clear hi)) | ((with_reducible refine gate_callee (f := 45) rfl ?_); refine goesL_ (some 4) rfl rfl Try.func45 (by kernel_rfl) rfl #[.agg (Ag.agC .i64 32 t386), .int .i64 1, .int .i64 0, .int .i64 1] rfl (by (try simp only [List.map_toArray, List.map_cons, List.map_nil]); first | done | rfl | (simp only [List.length_drop, List.length_take]; rfl)) ?_; (with_reducible refine (prefetch_Track_Note.calls t386 1 0 1 t387 _ A2.out).mono ?_); rintro e w10 ⟨rfl, hb⟩; refine ⟨_, rfl, ?_⟩; have n0_ := Aside0.mk (below_step (by repeat (first | (with_reducible first | exact HB.out | apply below_alloc | apply pw_below_drewN | apply below_drew1) | exact HB.out)) hb); clear HB; have HB := n0_; clear n0_; (try clear hb); (try clear hb2); (try clear hk); (try clear hi)) | ((with_reducible refine gate_callee (f := 45) rfl ?_); refine goesL_ (some 5) rfl rfl Try.func45 (by kernel_rfl) rfl #[.agg (Ag.agC .i64 32 t387), .int .i64 1, .int .i64 1, .int .i64 2] rfl (by (try simp only [List.map_toArray, List.map_cons, List.map_nil]); first | done | rfl | (simp only [List.length_drop, List.length_take]; rfl)) ?_; (with_reducible refine (prefetch_Track_Note.calls t387 1 1 2 t388 _ A3.out).mono ?_); rintro e w11 ⟨rfl, hb⟩; refine ⟨_, rfl, ?_⟩; have n0_ := Aside0.mk (below_step (by repeat (first | (with_reducible first | exact HB.out | apply below_alloc | apply pw_below_drewN | apply below_drew1) | exact HB.out)) hb); clear HB; have HB := n0_; clear n0_; (try clear hb); (try clear hb2); (try clear hk); (try clear hi)) | ((with_reducible refine gate_dst (N := 1) rfl ?_); (try (refine gate_guard (by rfl) ?_; dsimp only)); refine box_event ?hg (N := 1) ?hd (cs := (Ag.agC .i64 32 (fun _ => 0))) (t := 69) ?hr ?_; (case hd => rfl); (case hg => rfl); (case hr => first | (go_simp; done) | (go_simp; rfl)); intro gb389 hg w12 hbox hb; have n0_ := Aside0.mk (below_step (by repeat (first | (with_reducible first | exact HB.out | apply below_alloc | apply pw_below_drewN | apply below_drew1) | exact HB.out)) hb); have n1_ := Aside0.mk (hbox); have n2_ := Aside0.mk ((by rw [hg]; exact (below_size (by repeat (first | (with_reducible first | exact HB.out | apply below_alloc | apply pw_below_drewN | apply below_drew1) | exact HB.out))) : w.heap.size ≤ gb389)); have n3_ := Aside0.mk ((by rw [hg]; exact (below_size (by repeat (first | (with_reducible first | exact HB.out | apply below_alloc | apply pw_below_drewN | apply below_drew1) | exact HB.out))) : w.heap.size ≤ gb389)); clear HB; have HB := n0_; have BK389 := n1_; have GW389 := n2_; have GE389 := n3_; clear n0_ n1_ n2_ n3_; clear hb hbox hg; have hfz13_0 := blk_frozen BK389.out 0))
    have n0_ : Aside0 ((w12.setRow gb389 (Ag.agC .i64 32 t388)).heap[gb389]? = some (.cells (Ag.agC .i64 32 t388) 69 (0, 0))) := ⟨by (with_reducible repeat (first | refine blk_drewN ?_ _ | refine blk_drew ?_ | refine blk_alloc ?_ _)); refine Ag.row_put (old := (Ag.agC .i64 32 (fun _ => 0))) ?_; (with_reducible repeat (first | refine blk_drewN ?_ _ | refine blk_drew ?_ | refine blk_alloc ?_ _)); exact BK389.out⟩
    have n1_ : Aside0 (Below w.heap.size w (w12.setRow gb389 (Ag.agC .i64 32 t388))) := ⟨by repeat (first | (with_reducible first | exact HB.out | apply below_alloc | apply pw_below_drewN | apply below_drew1 | refine below_set ?_ GE389.out | refine Ag.row_below ?_ GE389.out) | exact HB.out)⟩
    (try clear BK389)
    (try clear HB)
    generalize (w12.setRow gb389 (Ag.agC .i64 32 t388)) = w14 at n0_ n1_ ⊢
    have BK389 := n0_
    have HB := n1_
    clear n0_ n1_
    have n0_ := Aside0.mk (blk_drew BK389.out)
    have n1_ := Aside0.mk (below_drew1 HB.out)
    clear BK389
    clear HB
    have BK389 := n0_
    have HB := n1_
    clear n0_ n1_
    refine start_ (n := 4) (S := fun w' => (Ag.ldTrk (.pointer (some ⟨gb389, 0, none⟩))).run Try.prog w' = .ok (.agg (Ag.agC .i64 32 t388)) w') (ds := []) #[false, false, false, false] (by kernel_rfl) rfl rfl (Ag.ldTrk_run BK389.out) (fun hHeld => ?_)
    generalize w14.drew = w15 at BK389 HB hHeld ⊢
    refine take_ (i := 0) (N := some 6) (v := ?_) (a' := ?_) #[true, false, false, false] rfl rfl (by kernel_rfl) (fun _ _ _ h => h) (Or.inl ⟨by rfl, ?_⟩) hHeld ?_ ?_
    rotate_left
    · intro w' s0
      go_simp
      with_reducible rfl
    rotate_left
    · simp only [Act.put, List.setIfInBounds_toArray, List.set_cons_zero, List.set_cons_succ, i64_w, i32_w]
      rfl
    refine one_ (i := 1) (N := some 7) #[true, true, false, false] rfl rfl (by kernel_rfl) (by decide) (fun K hK => ?_)
    refine goes_ Try.func26 (by kernel_rfl) rfl #[.slice none 0 0] (by rfl) rfl rfl (by (try simp only [List.map_toArray, List.map_cons, List.map_nil]); first | done | rfl | (simp only [List.length_drop, List.length_take]; rfl)) ?_
    refine (bitmap_Of.calls _ _ ([] : List Int) t390 _ ?side1 ?side2 A4.out).mono ?_
    (case side1 => exact Kd.C_nil _ _)
    (case side2 => exact Nat.le_refl _)
    rintro e w16 ⟨rfl, hb⟩
    refine ⟨_, rfl, ?_⟩
    have n0_ := Aside0.mk (blk_below (g := gb389) (o := .cells (Ag.agC .i64 32 t388) 69 (0, 0)) (by (with_reducible repeat (first | refine blk_drewN ?_ _ | refine blk_drew ?_ | refine blk_alloc ?_ _)); exact BK389.out) hb)
    have n1_ := Aside0.mk (below_step (by repeat (first | (with_reducible first | exact HB.out | apply below_alloc | apply pw_below_drewN | apply below_drew1 | refine below_set ?_ GE389.out | refine Ag.row_below ?_ GE389.out) | exact HB.out)) hb)
    clear BK389
    clear HB
    have BK389 := n0_
    have HB := n1_
    clear n0_ n1_
    (try clear hb)
    (try clear hb2)
    (try clear hk)
    (try clear hi)
    refine hK.out _ _ (Ag.ldTrk_run BK389.out) (fun hHeld => ?_)
    clear hK K
    refine norm_ (a' := ?_) ?_ ?_
    rotate_left
    · show Act.put _ (some 7) _ = _
      simp only [Act.put, List.setIfInBounds_toArray, List.set_cons_zero, List.set_cons_succ, i64_w, i32_w]
      rfl
    refine one_ (i := 2) (N := some 8) #[true, true, true, false] rfl rfl (by kernel_rfl) (by decide) (fun K hK => ?_)
    refine goes_ Try.func46 (by kernel_rfl) rfl #[.agg (Ag.agC .i64 32 t388), .int .i64 1, .int .i64 1, .int .i64 40, .int .i64 4, .int .i64 3, .agg (Ag.agC .u64 65 t390)] (by rfl) rfl rfl (by (try simp only [List.map_toArray, List.map_cons, List.map_nil]); first | done | rfl | (simp only [List.length_drop, List.length_take]; rfl)) ?_
    with_reducible refine (prefetch_Window.calls k t388 1 1 40 4 3 t390 t391 _ A5.out).mono ?_
    rintro e w17 ⟨v392, rfl, ho0, hb⟩
    refine ⟨_, rfl, ?_⟩
    have n0_ := Aside0.mk (Kd.R_lower ho0 (below_size (by repeat (first | (with_reducible first | exact HB.out | apply below_alloc | apply pw_below_drewN | apply below_drew1 | refine below_set ?_ GE389.out | refine Ag.row_below ?_ GE389.out) | exact HB.out))))
    have n1_ := Aside0.mk (blk_below (g := gb389) (o := .cells (Ag.agC .i64 32 t388) 69 (0, 0)) (by (with_reducible repeat (first | refine blk_drewN ?_ _ | refine blk_drew ?_ | refine blk_alloc ?_ _)); exact BK389.out) hb)
    have n2_ := Aside0.mk (below_step (by repeat (first | (with_reducible first | exact HB.out | apply below_alloc | apply pw_below_drewN | apply below_drew1 | refine below_set ?_ GE389.out | refine Ag.row_below ?_ GE389.out) | exact HB.out)) hb)
    clear BK389
    clear HB
    have HO393 := n0_
    have BK389 := n1_
    have HB := n2_
    clear n0_ n1_ n2_
    (try clear hb)
    (try clear hb2)
    (try clear hk)
    (try clear hi)
    (try clear ho0)
    refine hK.out _ _ (Ag.ldTrk_run BK389.out) (fun hHeld => ?_)
    clear hK K
    refine norm_ (a' := ?_) ?_ ?_
    rotate_left
    · show Act.put _ (some 8) _ = _
      simp only [Act.put, List.setIfInBounds_toArray, List.set_cons_zero, List.set_cons_succ, i64_w, i32_w]
      rfl
    refine pure_ (i := 3) (N := some 2) (v := ?_) (a' := ?_) #[true, true, true, true] rfl rfl (by kernel_rfl) (fun _ _ _ h => h) (Or.inl ⟨by rfl, ?_⟩) ?_ ?_
    rotate_left
    · intro w'
      go_simp
      with_reducible rfl
    rotate_left
    · simp only [Act.put, List.setIfInBounds_toArray, List.set_cons_zero, List.set_cons_succ, i64_w, i32_w]
      rfl
    refine done_ (by kernel_rfl) ?_
    try go_wp2_with (first | ((with_reducible refine ag_gate (t := 69) rfl ?_); first | refine row_load rfl 69 _ rfl _ rfl .i64 32 _ 69 _ BK389.out Try.underlying69 rfl Ag.info_trk ?_ | refine row_load rfl 69 _ rfl _ rfl .i64 32 _ 69 _ (by first | exact BK389.out | (repeat (first | exact BK389.out | refine blk_far ?_ (by assumption) _ | refine Ag.row_far ?_ (by assumption) _))) Try.underlying69 rfl Ag.info_trk ?_) | ((with_reducible refine ag_gate_st (t := 69) rfl ?_); first | refine row_store2 rfl 69 _ _ rfl rfl _ rfl .i64 32 _ rfl _ 69 BK389.out Ag.info_trk (Ag.agC_size _ _ _) ?_ | refine row_store2 rfl 69 _ _ rfl rfl _ rfl .i64 32 _ rfl _ 69 (by first | exact BK389.out | (repeat (first | exact BK389.out | refine blk_far ?_ (by assumption) _ | refine Ag.row_far ?_ (by assumption) _))) Ag.info_trk (Ag.agC_size _ _ _) ?_) | ((with_reducible refine gate_callee (f := 47) rfl ?_); refine goesL_ (some 10) rfl rfl Try.func47 (by kernel_rfl) rfl #[.agg (Ag.agC .i64 32 t388), .int .i64 1] rfl (by (try simp only [List.map_toArray, List.map_cons, List.map_nil]); first | done | rfl | (simp only [List.length_drop, List.length_take]; rfl)) ?_; (with_reducible refine (prefetch_Track_Row.calls t388 1 t394 _ A6.out).mono ?_); rintro e w19 ⟨rfl, hb⟩; refine ⟨_, rfl, ?_⟩; have n0_ := Aside0.mk (Kd.R_below (by (with_reducible repeat (first | apply Kd.R_alloc | apply Kd.R_drewN | apply Kd.R_drew)); exact HO393.out) hb); have n1_ := Aside0.mk (blk_below (g := gb389) (o := .cells (Ag.agC .i64 32 t388) 69 (0, 0)) (by (with_reducible repeat (first | refine blk_drewN ?_ _ | refine blk_drew ?_ | refine blk_alloc ?_ _)); exact BK389.out) hb); have n2_ := Aside0.mk (below_step (by repeat (first | (with_reducible first | exact HB.out | apply below_alloc | apply pw_below_drewN | apply below_drew1 | refine below_set ?_ GE389.out | refine Ag.row_below ?_ GE389.out) | exact HB.out)) hb); clear HO393; clear BK389; clear HB; have HO393 := n0_; have BK389 := n1_; have HB := n2_; clear n0_ n1_ n2_; (try clear hb); (try clear hb2); (try clear hk); (try clear hi)) | ((with_reducible refine gate_dst (N := 14) rfl ?_); (try (refine gate_guard (by rfl) ?_; dsimp only)); refine Kd.R_lit (Kd.int .i64) _ 3 ?hg (N := 14) ?hd (xs := ([2] : List Int)) (inner := [.int .i64 2]) (ok := fun _ => True) (okp := fun _ => True) ?hr ?hp (fun _ hk => hk) trivial (Below.refl _ _) (Nat.le_refl _) (by simp) ?_; (case hd => rfl); (case hg => rfl); (case hr => first | (go_simp; done) | (go_simp; rfl)); (case hp => exact (Reps.one (show Kd.M (Kd.int .i64) _ _ _ 2 [.int .i64 2] from rfl) (Reps.none _ _))); intro v396 w20 ho21 hb hg_ hnew_; clear hg_ hnew_; (first | rw [← Ny395.out] at ho21 | (simp only [Int.reduceToNat] at ho21; rw [← Ny395.out] at ho21)); have n0_ := Aside0.mk (Kd.R_elder' (by (with_reducible repeat (first | apply Kd.R_alloc | apply Kd.R_drewN | apply Kd.R_drew)); exact HO393.out) (Kd.R_base ho21) hb); have n1_ := Aside0.mk (Kd.R_lower (Kd.R_new' ho21 (Kd.R_lt (by (with_reducible repeat (first | apply Kd.R_alloc | apply Kd.R_drewN | apply Kd.R_drew)); exact HO393.out))) (below_size (by repeat (first | (with_reducible first | exact HB.out | apply below_alloc | apply pw_below_drewN | apply below_drew1 | refine below_set ?_ GE389.out | refine Ag.row_below ?_ GE389.out) | exact HB.out)))); have n2_ := Aside0.mk (blk_below (g := gb389) (o := .cells (Ag.agC .i64 32 t388) 69 (0, 0)) (by (with_reducible repeat (first | refine blk_drewN ?_ _ | refine blk_drew ?_ | refine blk_alloc ?_ _)); exact BK389.out) hb); have n3_ := Aside0.mk (below_step (by repeat (first | (with_reducible first | exact HB.out | apply below_alloc | apply pw_below_drewN | apply below_drew1 | refine below_set ?_ GE389.out | refine Ag.row_below ?_ GE389.out) | exact HB.out)) hb); clear HO393; clear BK389; clear HB; have HO393 := n0_; have HO397 := n1_; have BK389 := n2_; have HB := n3_; clear n0_ n1_ n2_ n3_; clear hb ho21; obtain ⟨Ao22, co22, eo22⟩ := Kd.R_slice HO393.out; subst eo22; obtain ⟨Ao23, co23, eo23⟩ := Kd.R_slice HO397.out; subst eo23) | (go_at_call 34; (with_reducible refine (spenceref01_Ints.calls k _ _ t391 _ _ y395 t398 _ ?side1 ?side2 ?side3 ?side4 A8.out).mono ?_); (case side1 => repeat (first | exact (Kd.R_reads' HO393.out).2.2 | (with_reducible refine Kd.C_alloc ?_ _) | (with_reducible refine Kd.C_drewN ?_ _) | (with_reducible refine Kd.C_drew ?_))); (case side2 => exact (Kd.R_reads' HO393.out).2.1); (case side3 => repeat (first | exact (Kd.R_reads' HO397.out).2.2 | (with_reducible refine Kd.C_alloc ?_ _) | (with_reducible refine Kd.C_drewN ?_ _) | (with_reducible refine Kd.C_drew ?_))); (case side4 => exact (Kd.R_reads' HO397.out).2.1); rintro e w' ⟨rfl, ⟨nd, rfl⟩⟩))
    go_ret
    exact ⟨by first | rfl | exact ne_empty _ | exact eq_empty _ | (simp [errW_none, errW_some] <;> rfl) | (simp [*, errW_none, errW_some] <;> rfl), by repeat (first | (with_reducible first | exact HB.out | apply below_alloc | apply pw_below_drewN | apply below_drew1 | refine below_set ?_ GE389.out | refine Ag.row_below ?_ GE389.out) | exact HB.out)⟩
  · rw [if_neg c7] at H
    have c7b0 : (t394 == 2) = false := beq_eq_false_iff_ne.mpr c7
    have c7b1 : (t394 != 2) = true := bne_iff_ne.mpr c7
    obtain rfl := Option.some.inj H
    go_enter Try.func43, Try.ntmps43
    try go_wp2_with (first | ((with_reducible refine ag_gate (t := 69) rfl ?_); first | refine row_load rfl 69 _ rfl _ rfl .i64 32 _ 69 _ BK389.out Try.underlying69 rfl Ag.info_trk ?_ | refine row_load rfl 69 _ rfl _ rfl .i64 32 _ 69 _ (by first | exact BK389.out | (repeat (first | exact BK389.out | refine blk_far ?_ (by assumption) _ | refine Ag.row_far ?_ (by assumption) _))) Try.underlying69 rfl Ag.info_trk ?_) | ((with_reducible refine ag_gate_st (t := 69) rfl ?_); first | refine row_store2 rfl 69 _ _ rfl rfl _ rfl .i64 32 _ rfl _ 69 BK389.out Ag.info_trk (Ag.agC_size _ _ _) ?_ | refine row_store2 rfl 69 _ _ rfl rfl _ rfl .i64 32 _ rfl _ 69 (by first | exact BK389.out | (repeat (first | exact BK389.out | refine blk_far ?_ (by assumption) _ | refine Ag.row_far ?_ (by assumption) _))) Ag.info_trk (Ag.agC_size _ _ _) ?_) | ((with_reducible refine gate_callee (f := 44) rfl ?_); refine goesL_ (some 3) rfl rfl Try.func44 (by kernel_rfl) rfl #[] rfl (by (try simp only [List.map_toArray, List.map_cons, List.map_nil]); first | done | rfl | (simp only [List.length_drop, List.length_take]; rfl)) ?_; (with_reducible refine (prefetch_New.calls  t386 _ A1.out).mono ?_); rintro e w24 ⟨rfl, hb⟩; refine ⟨_, rfl, ?_⟩; have n0_ := Aside0.mk (below_step (by repeat (first | (with_reducible first | exact HB.out | apply below_alloc | apply pw_below_drewN | apply below_drew1) | exact HB.out)) hb); clear HB; have HB := n0_; clear n0_; (try clear hb); (try clear hb2); (try clear hk); (try clear hi)) | ((with_reducible refine gate_callee (f := 45) rfl ?_); refine goesL_ (some 4) rfl rfl Try.func45 (by kernel_rfl) rfl #[.agg (Ag.agC .i64 32 t386), .int .i64 1, .int .i64 0, .int .i64 1] rfl (by (try simp only [List.map_toArray, List.map_cons, List.map_nil]); first | done | rfl | (simp only [List.length_drop, List.length_take]; rfl)) ?_; (with_reducible refine (prefetch_Track_Note.calls t386 1 0 1 t387 _ A2.out).mono ?_); rintro e w25 ⟨rfl, hb⟩; refine ⟨_, rfl, ?_⟩; have n0_ := Aside0.mk (below_step (by repeat (first | (with_reducible first | exact HB.out | apply below_alloc | apply pw_below_drewN | apply below_drew1) | exact HB.out)) hb); clear HB; have HB := n0_; clear n0_; (try clear hb); (try clear hb2); (try clear hk); (try clear hi)) | ((with_reducible refine gate_callee (f := 45) rfl ?_); refine goesL_ (some 5) rfl rfl Try.func45 (by kernel_rfl) rfl #[.agg (Ag.agC .i64 32 t387), .int .i64 1, .int .i64 1, .int .i64 2] rfl (by (try simp only [List.map_toArray, List.map_cons, List.map_nil]); first | done | rfl | (simp only [List.length_drop, List.length_take]; rfl)) ?_; (with_reducible refine (prefetch_Track_Note.calls t387 1 1 2 t388 _ A3.out).mono ?_); rintro e w26 ⟨rfl, hb⟩; refine ⟨_, rfl, ?_⟩; have n0_ := Aside0.mk (below_step (by repeat (first | (with_reducible first | exact HB.out | apply below_alloc | apply pw_below_drewN | apply below_drew1) | exact HB.out)) hb); clear HB; have HB := n0_; clear n0_; (try clear hb); (try clear hb2); (try clear hk); (try clear hi)) | ((with_reducible refine gate_dst (N := 1) rfl ?_); (try (refine gate_guard (by rfl) ?_; dsimp only)); refine box_event ?hg (N := 1) ?hd (cs := (Ag.agC .i64 32 (fun _ => 0))) (t := 69) ?hr ?_; (case hd => rfl); (case hg => rfl); (case hr => first | (go_simp; done) | (go_simp; rfl)); intro gb389 hg w27 hbox hb; have n0_ := Aside0.mk (below_step (by repeat (first | (with_reducible first | exact HB.out | apply below_alloc | apply pw_below_drewN | apply below_drew1) | exact HB.out)) hb); have n1_ := Aside0.mk (hbox); have n2_ := Aside0.mk ((by rw [hg]; exact (below_size (by repeat (first | (with_reducible first | exact HB.out | apply below_alloc | apply pw_below_drewN | apply below_drew1) | exact HB.out))) : w.heap.size ≤ gb389)); have n3_ := Aside0.mk ((by rw [hg]; exact (below_size (by repeat (first | (with_reducible first | exact HB.out | apply below_alloc | apply pw_below_drewN | apply below_drew1) | exact HB.out))) : w.heap.size ≤ gb389)); clear HB; have HB := n0_; have BK389 := n1_; have GW389 := n2_; have GE389 := n3_; clear n0_ n1_ n2_ n3_; clear hb hbox hg; have hfz28_0 := blk_frozen BK389.out 0))
    have n0_ : Aside0 ((w27.setRow gb389 (Ag.agC .i64 32 t388)).heap[gb389]? = some (.cells (Ag.agC .i64 32 t388) 69 (0, 0))) := ⟨by (with_reducible repeat (first | refine blk_drewN ?_ _ | refine blk_drew ?_ | refine blk_alloc ?_ _)); refine Ag.row_put (old := (Ag.agC .i64 32 (fun _ => 0))) ?_; (with_reducible repeat (first | refine blk_drewN ?_ _ | refine blk_drew ?_ | refine blk_alloc ?_ _)); exact BK389.out⟩
    have n1_ : Aside0 (Below w.heap.size w (w27.setRow gb389 (Ag.agC .i64 32 t388))) := ⟨by repeat (first | (with_reducible first | exact HB.out | apply below_alloc | apply pw_below_drewN | apply below_drew1 | refine below_set ?_ GE389.out | refine Ag.row_below ?_ GE389.out) | exact HB.out)⟩
    (try clear BK389)
    (try clear HB)
    generalize (w27.setRow gb389 (Ag.agC .i64 32 t388)) = w29 at n0_ n1_ ⊢
    have BK389 := n0_
    have HB := n1_
    clear n0_ n1_
    have n0_ := Aside0.mk (blk_drew BK389.out)
    have n1_ := Aside0.mk (below_drew1 HB.out)
    clear BK389
    clear HB
    have BK389 := n0_
    have HB := n1_
    clear n0_ n1_
    refine start_ (n := 4) (S := fun w' => (Ag.ldTrk (.pointer (some ⟨gb389, 0, none⟩))).run Try.prog w' = .ok (.agg (Ag.agC .i64 32 t388)) w') (ds := []) #[false, false, false, false] (by kernel_rfl) rfl rfl (Ag.ldTrk_run BK389.out) (fun hHeld => ?_)
    generalize w29.drew = w30 at BK389 HB hHeld ⊢
    refine take_ (i := 0) (N := some 6) (v := ?_) (a' := ?_) #[true, false, false, false] rfl rfl (by kernel_rfl) (fun _ _ _ h => h) (Or.inl ⟨by rfl, ?_⟩) hHeld ?_ ?_
    rotate_left
    · intro w' s0
      go_simp
      with_reducible rfl
    rotate_left
    · simp only [Act.put, List.setIfInBounds_toArray, List.set_cons_zero, List.set_cons_succ, i64_w, i32_w]
      rfl
    refine one_ (i := 1) (N := some 7) #[true, true, false, false] rfl rfl (by kernel_rfl) (by decide) (fun K hK => ?_)
    refine goes_ Try.func26 (by kernel_rfl) rfl #[.slice none 0 0] (by rfl) rfl rfl (by (try simp only [List.map_toArray, List.map_cons, List.map_nil]); first | done | rfl | (simp only [List.length_drop, List.length_take]; rfl)) ?_
    refine (bitmap_Of.calls _ _ ([] : List Int) t390 _ ?side1 ?side2 A4.out).mono ?_
    (case side1 => exact Kd.C_nil _ _)
    (case side2 => exact Nat.le_refl _)
    rintro e w31 ⟨rfl, hb⟩
    refine ⟨_, rfl, ?_⟩
    have n0_ := Aside0.mk (blk_below (g := gb389) (o := .cells (Ag.agC .i64 32 t388) 69 (0, 0)) (by (with_reducible repeat (first | refine blk_drewN ?_ _ | refine blk_drew ?_ | refine blk_alloc ?_ _)); exact BK389.out) hb)
    have n1_ := Aside0.mk (below_step (by repeat (first | (with_reducible first | exact HB.out | apply below_alloc | apply pw_below_drewN | apply below_drew1 | refine below_set ?_ GE389.out | refine Ag.row_below ?_ GE389.out) | exact HB.out)) hb)
    clear BK389
    clear HB
    have BK389 := n0_
    have HB := n1_
    clear n0_ n1_
    (try clear hb)
    (try clear hb2)
    (try clear hk)
    (try clear hi)
    refine hK.out _ _ (Ag.ldTrk_run BK389.out) (fun hHeld => ?_)
    clear hK K
    refine norm_ (a' := ?_) ?_ ?_
    rotate_left
    · show Act.put _ (some 7) _ = _
      simp only [Act.put, List.setIfInBounds_toArray, List.set_cons_zero, List.set_cons_succ, i64_w, i32_w]
      rfl
    refine one_ (i := 2) (N := some 8) #[true, true, true, false] rfl rfl (by kernel_rfl) (by decide) (fun K hK => ?_)
    refine goes_ Try.func46 (by kernel_rfl) rfl #[.agg (Ag.agC .i64 32 t388), .int .i64 1, .int .i64 1, .int .i64 40, .int .i64 4, .int .i64 3, .agg (Ag.agC .u64 65 t390)] (by rfl) rfl rfl (by (try simp only [List.map_toArray, List.map_cons, List.map_nil]); first | done | rfl | (simp only [List.length_drop, List.length_take]; rfl)) ?_
    with_reducible refine (prefetch_Window.calls k t388 1 1 40 4 3 t390 t391 _ A5.out).mono ?_
    rintro e w32 ⟨v392, rfl, ho0, hb⟩
    refine ⟨_, rfl, ?_⟩
    have n0_ := Aside0.mk (Kd.R_lower ho0 (below_size (by repeat (first | (with_reducible first | exact HB.out | apply below_alloc | apply pw_below_drewN | apply below_drew1 | refine below_set ?_ GE389.out | refine Ag.row_below ?_ GE389.out) | exact HB.out))))
    have n1_ := Aside0.mk (blk_below (g := gb389) (o := .cells (Ag.agC .i64 32 t388) 69 (0, 0)) (by (with_reducible repeat (first | refine blk_drewN ?_ _ | refine blk_drew ?_ | refine blk_alloc ?_ _)); exact BK389.out) hb)
    have n2_ := Aside0.mk (below_step (by repeat (first | (with_reducible first | exact HB.out | apply below_alloc | apply pw_below_drewN | apply below_drew1 | refine below_set ?_ GE389.out | refine Ag.row_below ?_ GE389.out) | exact HB.out)) hb)
    clear BK389
    clear HB
    have HO393 := n0_
    have BK389 := n1_
    have HB := n2_
    clear n0_ n1_ n2_
    (try clear hb)
    (try clear hb2)
    (try clear hk)
    (try clear hi)
    (try clear ho0)
    refine hK.out _ _ (Ag.ldTrk_run BK389.out) (fun hHeld => ?_)
    clear hK K
    refine norm_ (a' := ?_) ?_ ?_
    rotate_left
    · show Act.put _ (some 8) _ = _
      simp only [Act.put, List.setIfInBounds_toArray, List.set_cons_zero, List.set_cons_succ, i64_w, i32_w]
      rfl
    refine pure_ (i := 3) (N := some 2) (v := ?_) (a' := ?_) #[true, true, true, true] rfl rfl (by kernel_rfl) (fun _ _ _ h => h) (Or.inl ⟨by rfl, ?_⟩) ?_ ?_
    rotate_left
    · intro w'
      go_simp
      with_reducible rfl
    rotate_left
    · simp only [Act.put, List.setIfInBounds_toArray, List.set_cons_zero, List.set_cons_succ, i64_w, i32_w]
      rfl
    refine done_ (by kernel_rfl) ?_
    try go_wp2_with (first | ((with_reducible refine ag_gate (t := 69) rfl ?_); first | refine row_load rfl 69 _ rfl _ rfl .i64 32 _ 69 _ BK389.out Try.underlying69 rfl Ag.info_trk ?_ | refine row_load rfl 69 _ rfl _ rfl .i64 32 _ 69 _ (by first | exact BK389.out | (repeat (first | exact BK389.out | refine blk_far ?_ (by assumption) _ | refine Ag.row_far ?_ (by assumption) _))) Try.underlying69 rfl Ag.info_trk ?_) | ((with_reducible refine ag_gate_st (t := 69) rfl ?_); first | refine row_store2 rfl 69 _ _ rfl rfl _ rfl .i64 32 _ rfl _ 69 BK389.out Ag.info_trk (Ag.agC_size _ _ _) ?_ | refine row_store2 rfl 69 _ _ rfl rfl _ rfl .i64 32 _ rfl _ 69 (by first | exact BK389.out | (repeat (first | exact BK389.out | refine blk_far ?_ (by assumption) _ | refine Ag.row_far ?_ (by assumption) _))) Ag.info_trk (Ag.agC_size _ _ _) ?_) | ((with_reducible refine gate_callee (f := 47) rfl ?_); refine goesL_ (some 10) rfl rfl Try.func47 (by kernel_rfl) rfl #[.agg (Ag.agC .i64 32 t388), .int .i64 1] rfl (by (try simp only [List.map_toArray, List.map_cons, List.map_nil]); first | done | rfl | (simp only [List.length_drop, List.length_take]; rfl)) ?_; (with_reducible refine (prefetch_Track_Row.calls t388 1 t394 _ A6.out).mono ?_); rintro e w34 ⟨rfl, hb⟩; refine ⟨_, rfl, ?_⟩; have n0_ := Aside0.mk (Kd.R_below (by (with_reducible repeat (first | apply Kd.R_alloc | apply Kd.R_drewN | apply Kd.R_drew)); exact HO393.out) hb); have n1_ := Aside0.mk (blk_below (g := gb389) (o := .cells (Ag.agC .i64 32 t388) 69 (0, 0)) (by (with_reducible repeat (first | refine blk_drewN ?_ _ | refine blk_drew ?_ | refine blk_alloc ?_ _)); exact BK389.out) hb); have n2_ := Aside0.mk (below_step (by repeat (first | (with_reducible first | exact HB.out | apply below_alloc | apply pw_below_drewN | apply below_drew1 | refine below_set ?_ GE389.out | refine Ag.row_below ?_ GE389.out) | exact HB.out)) hb); clear HO393; clear BK389; clear HB; have HO393 := n0_; have BK389 := n1_; have HB := n2_; clear n0_ n1_ n2_; (try clear hb); (try clear hb2); (try clear hk); (try clear hi)))
    go_ret
    exact ⟨by first | rfl | exact ne_empty _ | exact eq_empty _ | (simp [errW_none, errW_some] <;> rfl) | (simp [*, errW_none, errW_some] <;> rfl), by repeat (first | (with_reducible first | exact HB.out | apply below_alloc | apply pw_below_drewN | apply below_drew1 | refine below_set ?_ GE389.out | refine Ag.row_below ?_ GE389.out) | exact HB.out)⟩
end Go.Proofs.Ytmojlhpkidbklaa.PAll
namespace Go.Proofs.Ytmojlhpkidbklaa.PAll
open Go.Proofs.Ytmojlhpkidbklaa.Ag (row_load row_store ag_gate ag_gate_st row_store2)
open Go.RowKit Go.Proofs.Ytmojlhpkidbklaa.Xw Go.Proofs.YtmojlhpkidbklaaW.PrintWords Go.Proofs.YtmojlhpkidbklaaW.PrintLast Go.Proofs.YtmojlhpkidbklaaW.PrintMore
attribute [local go_sem] max2_int min2_int max_two min_two max_three min_three max_four min_four   -- for this text's walks alone
attribute [local go_sem ↓] Ag.ldMap_eq Ag.ldTrk_eq
set_option linter.unusedVariables false
set_option linter.unusedSimpArgs false
mutual
def spencelaw29_PrefetchWindows.j0 : Nat → List (S72) → Int → Int → Int → Int → Int → List Int → Bool → Option (Bool)
  | 0, _, _, _, _, _, _, _, _ => none
  | k + 1, x0, x1, x2, x3, x4, x5, x6, x31 => if x31 = true then (some true) else ((prefetch_New.f).bind fun t400 => (spencelaw29_PrefetchWindows.l0 k x1 x2 x3 x4 x5 x6 x0 (x0.length : Int) 0 t400))
def spencelaw29_PrefetchWindows.l0 : Nat → Int → Int → Int → Int → Int → List Int → List (S72) → Int → Int → (Nat → Int) → Option (Bool)
  | 0, _, _, _, _, _, _, _, _, _, _ => none
  | k + 1, x1, x2, x3, x4, x5, x6, x33, x34, x35, x402000 => if x35 < x34 then (if 0 ≤ x35 then (if x35 < (x33.length : Int) then ((prefetch_Track_Note.f x402000 ((rd_T72 x33 x35).f0) ((rd_T72 x33 x35).f1) ((rd_T72 x33 x35).f2)).bind fun t404 => (spencelaw29_PrefetchWindows.l0 k x1 x2 x3 x4 x5 x6 x33 x34 (wrap64 (x35 + 1)) t404)) else (none)) else (none)) else ((bitmap_Of.f x6).bind fun t405 => ((prefetch_Window.f k x402000 x1 x2 x3 x4 x5 t405).bind fun t406 => ((prefetch_Track_Row.f x402000 x1).bind fun t409 => ((spenceref04_Bounds.f k x2 x3 x4).bind fun bt410 => (if bt410.2 > 0 then (spencelaw29_PrefetchWindows.l1 k x2 x3 x4 x6 t406 (mn x5 (wrap64 (t409 - 1))) ([] : List Int) (wrap64 (x2 + 1))) else ((spenceref01_Ints.f k t406 ([] : List Int)).bind fun t419 => (some t419)))))))
def spencelaw29_PrefetchWindows.l1 : Nat → Int → Int → Int → List Int → List Int → Int → List Int → Int → Option (Bool)
  | 0, _, _, _, _, _, _, _, _ => none
  | k + 1, x2, x3, x4, x6, x18, x19, x20, x21 => if (wrap64 (x21 - x2)) ≤ x19 then ((spenceref04_Bounds.f k x21 x3 x4).bind fun bt412 => (spencelaw29_PrefetchWindows.j3 k x2 x3 x4 x6 x18 x19 x20 x21 (decide (bt412.2 > 0)))) else (spencelaw29_PrefetchWindows.j3 k x2 x3 x4 x6 x18 x19 x20 x21 false)
def spencelaw29_PrefetchWindows.j3 : Nat → Int → Int → Int → List Int → List Int → Int → List Int → Int → Bool → Option (Bool)
  | 0, _, _, _, _, _, _, _, _, _ => none
  | k + 1, x2, x3, x4, x6, x18, x19, x20, x21, x83 => if x83 = true then ((spenceref01_In.f k x6 x21).bind fun t414 => (if t414 = true then (spencelaw29_PrefetchWindows.l1 k x2 x3 x4 x6 x18 x19 x20 (wrap64 (x21 + 1))) else (if x20.length < 17592186044416 then (spencelaw29_PrefetchWindows.l1 k x2 x3 x4 x6 x18 x19 (x20 ++ [x21]) (wrap64 (x21 + 1))) else (none)))) else ((spenceref01_Ints.f k x18 x20).bind fun t418 => (some t418))
end
def spencelaw29_PrefetchWindows.f (k : Nat) (l0 : List (S72)) (a1 : Int) (a2 : Int) (a3 : Int) (a4 : Int) (a5 : Int) (l6 : List Int) : Option (Bool) := (spencelaw29_awake.f k).bind fun t399 => (if t399 = true then (if (l0.length : Int) > 100 then (spencelaw29_PrefetchWindows.j0 k l0 a1 a2 a3 a4 a5 l6 true) else (spencelaw29_PrefetchWindows.j0 k l0 a1 a2 a3 a4 a5 l6 (decide ((l6.length : Int) > 60)))) else (some false))
theorem spencelaw29_PrefetchWindows.mono_l : ∀ k, (∀ y0 y1 y2 y3 y4 y5 y6 y7, LeO (spencelaw29_PrefetchWindows.j0 k y0 y1 y2 y3 y4 y5 y6 y7) (spencelaw29_PrefetchWindows.j0 (k + 1) y0 y1 y2 y3 y4 y5 y6 y7)) ∧ (∀ y0 y1 y2 y3 y4 y5 y6 y7 y8 y9, LeO (spencelaw29_PrefetchWindows.l0 k y0 y1 y2 y3 y4 y5 y6 y7 y8 y9) (spencelaw29_PrefetchWindows.l0 (k + 1) y0 y1 y2 y3 y4 y5 y6 y7 y8 y9)) ∧ (∀ y0 y1 y2 y3 y4 y5 y6 y7, LeO (spencelaw29_PrefetchWindows.l1 k y0 y1 y2 y3 y4 y5 y6 y7) (spencelaw29_PrefetchWindows.l1 (k + 1) y0 y1 y2 y3 y4 y5 y6 y7)) ∧ (∀ y0 y1 y2 y3 y4 y5 y6 y7 y8, LeO (spencelaw29_PrefetchWindows.j3 k y0 y1 y2 y3 y4 y5 y6 y7 y8) (spencelaw29_PrefetchWindows.j3 (k + 1) y0 y1 y2 y3 y4 y5 y6 y7 y8))
  | 0 => ⟨fun _ _ _ _ _ _ _ _ r h => by simp [spencelaw29_PrefetchWindows.j0] at h, fun _ _ _ _ _ _ _ _ _ _ r h => by simp [spencelaw29_PrefetchWindows.l0] at h, fun _ _ _ _ _ _ _ _ r h => by simp [spencelaw29_PrefetchWindows.l1] at h, fun _ _ _ _ _ _ _ _ _ r h => by simp [spencelaw29_PrefetchWindows.j3] at h⟩
  | k + 1 => by
    obtain ⟨ih0, ih1, ih2, ih3⟩ := spencelaw29_PrefetchWindows.mono_l k
    refine ⟨?_, ?_, ?_, ?_⟩
    · intro y0 y1 y2 y3 y4 y5 y6 y7
      unfold spencelaw29_PrefetchWindows.j0
      repeat' first
      | (with_reducible exact ih0 _ _ _ _ _ _ _ _)
      | (with_reducible exact ih1 _ _ _ _ _ _ _ _ _ _)
      | (with_reducible exact ih2 _ _ _ _ _ _ _ _)
      | (with_reducible exact ih3 _ _ _ _ _ _ _ _ _)
      | (with_reducible exact prefetch_Window.mono _ _ _ _ _ _ _ _)
      | (with_reducible exact spencelaw29_awake.mono _)
      | (with_reducible exact spenceref01_In.mono _ _ _)
      | (with_reducible exact spenceref01_Ints.mono _ _ _)
      | (with_reducible exact spenceref04_Bounds.mono _ _ _ _)
      | (with_reducible exact LeO.refl _)
      | (with_reducible exact LeO.none _)
      | (with_reducible refine LeO.ite ?_ ?_)
      | (with_reducible refine LeO.bind ?_ (fun _ => ?_))
      | exact ih0 _ _ _ _ _ _ _ _
      | exact ih1 _ _ _ _ _ _ _ _ _ _
      | exact ih2 _ _ _ _ _ _ _ _
      | exact ih3 _ _ _ _ _ _ _ _ _
      | exact prefetch_Window.mono _ _ _ _ _ _ _ _
      | exact spencelaw29_awake.mono _
      | exact spenceref01_In.mono _ _ _
      | exact spenceref01_Ints.mono _ _ _
      | exact spenceref04_Bounds.mono _ _ _ _
      | exact LeO.none _
      | refine LeO.ite ?_ ?_
      | refine LeO.bind ?_ (fun _ => ?_)
    · intro y0 y1 y2 y3 y4 y5 y6 y7 y8 y9
      unfold spencelaw29_PrefetchWindows.l0
      repeat' first
      | (with_reducible exact ih0 _ _ _ _ _ _ _ _)
      | (with_reducible exact ih1 _ _ _ _ _ _ _ _ _ _)
      | (with_reducible exact ih2 _ _ _ _ _ _ _ _)
      | (with_reducible exact ih3 _ _ _ _ _ _ _ _ _)
      | (with_reducible exact prefetch_Window.mono _ _ _ _ _ _ _ _)
      | (with_reducible exact spencelaw29_awake.mono _)
      | (with_reducible exact spenceref01_In.mono _ _ _)
      | (with_reducible exact spenceref01_Ints.mono _ _ _)
      | (with_reducible exact spenceref04_Bounds.mono _ _ _ _)
      | (with_reducible exact LeO.refl _)
      | (with_reducible exact LeO.none _)
      | (with_reducible refine LeO.ite ?_ ?_)
      | (with_reducible refine LeO.bind ?_ (fun _ => ?_))
      | exact ih0 _ _ _ _ _ _ _ _
      | exact ih1 _ _ _ _ _ _ _ _ _ _
      | exact ih2 _ _ _ _ _ _ _ _
      | exact ih3 _ _ _ _ _ _ _ _ _
      | exact prefetch_Window.mono _ _ _ _ _ _ _ _
      | exact spencelaw29_awake.mono _
      | exact spenceref01_In.mono _ _ _
      | exact spenceref01_Ints.mono _ _ _
      | exact spenceref04_Bounds.mono _ _ _ _
      | exact LeO.none _
      | refine LeO.ite ?_ ?_
      | refine LeO.bind ?_ (fun _ => ?_)
    · intro y0 y1 y2 y3 y4 y5 y6 y7
      unfold spencelaw29_PrefetchWindows.l1
      repeat' first
      | (with_reducible exact ih0 _ _ _ _ _ _ _ _)
      | (with_reducible exact ih1 _ _ _ _ _ _ _ _ _ _)
      | (with_reducible exact ih2 _ _ _ _ _ _ _ _)
      | (with_reducible exact ih3 _ _ _ _ _ _ _ _ _)
      | (with_reducible exact prefetch_Window.mono _ _ _ _ _ _ _ _)
      | (with_reducible exact spencelaw29_awake.mono _)
      | (with_reducible exact spenceref01_In.mono _ _ _)
      | (with_reducible exact spenceref01_Ints.mono _ _ _)
      | (with_reducible exact spenceref04_Bounds.mono _ _ _ _)
      | (with_reducible exact LeO.refl _)
      | (with_reducible exact LeO.none _)
      | (with_reducible refine LeO.ite ?_ ?_)
      | (with_reducible refine LeO.bind ?_ (fun _ => ?_))
      | exact ih0 _ _ _ _ _ _ _ _
      | exact ih1 _ _ _ _ _ _ _ _ _ _
      | exact ih2 _ _ _ _ _ _ _ _
      | exact ih3 _ _ _ _ _ _ _ _ _
      | exact prefetch_Window.mono _ _ _ _ _ _ _ _
      | exact spencelaw29_awake.mono _
      | exact spenceref01_In.mono _ _ _
      | exact spenceref01_Ints.mono _ _ _
      | exact spenceref04_Bounds.mono _ _ _ _
      | exact LeO.none _
      | refine LeO.ite ?_ ?_
      | refine LeO.bind ?_ (fun _ => ?_)
    · intro y0 y1 y2 y3 y4 y5 y6 y7 y8
      unfold spencelaw29_PrefetchWindows.j3
      repeat' first
      | (with_reducible exact ih0 _ _ _ _ _ _ _ _)
      | (with_reducible exact ih1 _ _ _ _ _ _ _ _ _ _)
      | (with_reducible exact ih2 _ _ _ _ _ _ _ _)
      | (with_reducible exact ih3 _ _ _ _ _ _ _ _ _)
      | (with_reducible exact prefetch_Window.mono _ _ _ _ _ _ _ _)
      | (with_reducible exact spencelaw29_awake.mono _)
      | (with_reducible exact spenceref01_In.mono _ _ _)
      | (with_reducible exact spenceref01_Ints.mono _ _ _)
      | (with_reducible exact spenceref04_Bounds.mono _ _ _ _)
      | (with_reducible exact LeO.refl _)
      | (with_reducible exact LeO.none _)
      | (with_reducible refine LeO.ite ?_ ?_)
      | (with_reducible refine LeO.bind ?_ (fun _ => ?_))
      | exact ih0 _ _ _ _ _ _ _ _
      | exact ih1 _ _ _ _ _ _ _ _ _ _
      | exact ih2 _ _ _ _ _ _ _ _
      | exact ih3 _ _ _ _ _ _ _ _ _
      | exact prefetch_Window.mono _ _ _ _ _ _ _ _
      | exact spencelaw29_awake.mono _
      | exact spenceref01_In.mono _ _ _
      | exact spenceref01_Ints.mono _ _ _
      | exact spenceref04_Bounds.mono _ _ _ _
      | exact LeO.none _
      | refine LeO.ite ?_ ?_
      | refine LeO.bind ?_ (fun _ => ?_)
theorem spencelaw29_PrefetchWindows.mono : ∀ a0 a1 a2 a3 a4 a5 a6 k, LeO (spencelaw29_PrefetchWindows.f k a0 a1 a2 a3 a4 a5 a6) (spencelaw29_PrefetchWindows.f (k + 1) a0 a1 a2 a3 a4 a5 a6) := by
  intro a0 a1 a2 a3 a4 a5 a6 k
  obtain ⟨ih0, ih1, ih2, ih3⟩ := spencelaw29_PrefetchWindows.mono_l k
  unfold spencelaw29_PrefetchWindows.f
  repeat' first
      | (with_reducible exact ih0 _ _ _ _ _ _ _ _)
      | (with_reducible exact ih1 _ _ _ _ _ _ _ _ _ _)
      | (with_reducible exact ih2 _ _ _ _ _ _ _ _)
      | (with_reducible exact ih3 _ _ _ _ _ _ _ _ _)
      | (with_reducible exact prefetch_Window.mono _ _ _ _ _ _ _ _)
      | (with_reducible exact spencelaw29_awake.mono _)
      | (with_reducible exact spenceref01_In.mono _ _ _)
      | (with_reducible exact spenceref01_Ints.mono _ _ _)
      | (with_reducible exact spenceref04_Bounds.mono _ _ _ _)
      | (with_reducible exact LeO.refl _)
      | (with_reducible exact LeO.none _)
      | (with_reducible refine LeO.ite ?_ ?_)
      | (with_reducible refine LeO.bind ?_ (fun _ => ?_))
      | exact ih0 _ _ _ _ _ _ _ _
      | exact ih1 _ _ _ _ _ _ _ _ _ _
      | exact ih2 _ _ _ _ _ _ _ _
      | exact ih3 _ _ _ _ _ _ _ _ _
      | exact prefetch_Window.mono _ _ _ _ _ _ _ _
      | exact spencelaw29_awake.mono _
      | exact spenceref01_In.mono _ _ _
      | exact spenceref01_Ints.mono _ _ _
      | exact spenceref04_Bounds.mono _ _ _ _
      | exact LeO.none _
      | refine LeO.ite ?_ ?_
      | refine LeO.bind ?_ (fun _ => ?_)
end Go.Proofs.Ytmojlhpkidbklaa.PAll
namespace Go.Proofs.Ytmojlhpkidbklaa.Pure
open Go.RowKit Go.Proofs.Ytmojlhpkidbklaa.Xw Go.Proofs.Ytmojlhpkidbklaa.PAll Go.Proofs.YtmojlhpkidbklaaW.PrintWords Go.Proofs.YtmojlhpkidbklaaW.PrintLast Go.Proofs.YtmojlhpkidbklaaW.PrintMore
open Go.Proofs.Ytmojlhpkidbklaa.Ag (hasF withF zeroF has_of noteF longF nextF trkZ TrkOk smallAt small_of note_ok trkZ_ok)
def win (p : Int → Bool) : Nat → Int → List Int → List Int
  | 0, _, out => out
  | d + 1, i, out => win p d (i + 1) (if p i then out else out ++ [i])
theorem win_congr (p q : Int → Bool) : ∀ (d : Nat) (i : Int) (out : List Int), (∀ x, i ≤ x → x < i + d → p x = q x) → win p d i out = win q d i out
  | 0, _, _, _ => rfl
  | d + 1, i, out, h => by rw [win, win, h i (by omega) (by omega), win_congr p q d (i + 1) _ (fun x h1 h2 => h x (by omega) (by omega))]
/-- as many numbers as are looked at -/
def upto (last c v : Int) : Nat := (min c (last + v + 1) - (last + 1)).toNat
theorem window_loop (F : Nat → Int) (last c v : Int) (h0 : 0 ≤ last) (hc : c ≤ 4096) (hv : -9223372036854775808 ≤ v ∧ v ≤ 9223372036854775807) (d : Nat) : ∀ (i : Int) (out : List Int), last + 1 ≤ i → i ≤ 4097 → out.length + d ≤ 10000 →
    (i + d = min c (last + v + 1) ∨ (min c (last + v + 1) ≤ i ∧ d = 0)) → Ev (fun k => prefetch_Window.l0 k last c out (mx v 0) i F) (win (hasF F) d i out) := by
  have hm := mx_eq v 0
  induction d with
  | zero =>
    intro i out h1 h2 h3 h4
    have hend : Ev (fun k => prefetch_Window.j2 k last c out (mx v 0) i false F) (win (hasF F) 0 i out) := Ev.pos fun k => by simp only [prefetch_Window.j2, Bool.false_eq_true, if_false, win]
    refine Ev.succ ?_
    simp only [prefetch_Window.l0]
    by_cases hi : i < c
    · rw [wrap_id (by omega)]
      simp only [hi, if_true, show ¬ (i - last ≤ mx v 0) by omega, decide_false]
      exact hend
    · simp only [hi, if_false]
      exact hend
  | succ d ih =>
    intro i out h1 h2 h3 h4
    have hn := ih (i + 1) (if hasF F i then out else out ++ [i]) (by omega) (by omega) (by split <;> first | omega | (simp only [List.length_append, List.length_singleton]; omega)) (by omega)
    refine Ev.succ ?_
    simp only [prefetch_Window.l0]
    rw [wrap_id (by omega)]
    simp only [show i < c by omega, show i - last ≤ mx v 0 by omega, if_true, decide_true]
    refine Ev.succ ?_
    simp only [prefetch_Window.j2, if_true, bitmap_Map_Has.f, Option.bind_some, win]
    cases hh : hasF F i
    · simp only [hh, Bool.false_eq_true, if_false] at hn ⊢
      simp only [show out.length < 17592186044416 by omega, if_true]
      rw [wrap_id (by omega)]; exact hn
    · simp only [hh, if_true] at hn ⊢
      rw [wrap_id (by omega)]; exact hn
theorem row_bd (m : Int) (t : Nat → Int) (ht : TrkOk m t) (o : Int) : 0 ≤ longF t o ∧ longF t o ≤ max m 0 := by
  have := ht o.toNat
  unfold longF
  split <;> omega
theorem window_ev (t F : Nat → Int) (m : Int) (hm : m ≤ 1000) (ht : TrkOk m t) (o last n s most : Int) (hmost : -9223372036854775808 ≤ most ∧ most ≤ 9223372036854775807) :
    Ev (fun k => prefetch_Window.f k t o last n s most F) (if 0 ≤ last ∧ last < cnt n s then win (hasF F) (upto last (cnt n s) (mn most (longF t o - 1))) (last + 1) [] else []) := by
  have hr := row_bd m t ht o
  have hmn := mn_eq most (longF t o - 1)
  unfold prefetch_Window.f
  simp only [count_eq, Option.bind_some]
  have hc : cnt n s ≤ 4096 := by
    by_cases h : CR n s
    · have h1 := (cnt_bd h).2
      have h2 := h.2.1
      omega
    · unfold cnt; rw [if_neg h]; omega
  have no : Ev (fun k => prefetch_Window.j0 k o last most (cnt n s) true t F) [] := Ev.pos fun k => by simp only [prefetch_Window.j0, if_true]
  by_cases h0 : last < 0
  · rw [if_neg (show ¬ (0 ≤ last ∧ last < cnt n s) by omega)]
    simp only [h0, if_true]; exact no
  by_cases h1 : last ≥ cnt n s
  · rw [if_neg (show ¬ (0 ≤ last ∧ last < cnt n s) by omega)]
    simp only [h0, if_false, decide_eq_true h1]; exact no
  rw [if_pos (show 0 ≤ last ∧ last < cnt n s by omega)]
  simp only [h0, if_false, decide_eq_false h1]
  refine Ev.succ ?_
  simp only [prefetch_Window.j0, Bool.false_eq_true, if_false, prefetch_Track_Row.f, Option.bind_some]
  rw [wrap_id (by omega), wrap_id (by omega)]
  exact window_loop F last (cnt n s) (mn most (longF t o - 1)) (by omega) hc (by omega) _ (last + 1) [] (by omega) (by omega) (by unfold upto; simp; omega) (by unfold upto; omega)
theorem awake29 : Ev (fun k => spencelaw29_awake.f k) true := by
  unfold spencelaw29_awake.f bitmap_Of.f
  simp only [prefetch_New.f, Option.bind_some, prefetch_Track_Note.f, prefetch_Track_Row.f]
  have o1 := note_ok 0 trkZ 1 0 1 trkZ_ok (by decide)
  have o2 := note_ok 1 _ 1 1 2 o1 (by decide)
  rw [if_pos (small_of 0 (by decide) trkZ trkZ_ok 1)]
  simp only [Option.bind_some]
  rw [if_pos (small_of 1 (by decide) _ o1 1)]
  simp only [Option.bind_some]
  refine Ev.bind (window_ev _ _ 2 (by decide) o2 1 1 40 4 3 (by decide)) ?_
  have e1 : longF (noteF (noteF trkZ 1 0 1) 1 1 2) 1 = 2 := by decide
  have e2 : cnt 40 4 = 10 := by decide
  rw [e1, e2, if_pos (by decide)]
  simp only [if_true]
  have e3 : win (hasF (([] : List Int).foldl withF zeroF)) (upto 1 10 (mn 3 (2 - 1))) (1 + 1) [] = [2] := by
    rw [win_congr _ (fun x => decide (0 ≤ x ∧ x ≤ 4096) && decide (x ∈ ([] : List Int))) _ _ _ (fun x _ _ => has_of [] x)]
    decide
  rw [e3]
  exact Ev.bind (ints_ev [2] [2] (by decide)) (Ev.now _)
end Go.Proofs.Ytmojlhpkidbklaa.Pure
namespace Go.Proofs.Ytmojlhpkidbklaa.Ag
open Go.RowKit Go.Proofs.Ytmojlhpkidbklaa.Xw Go.Proofs.Ytmojlhpkidbklaa.PAll Go.Proofs.YtmojlhpkidbklaaW.PrintWords Go.Proofs.YtmojlhpkidbklaaW.PrintLast Go.Proofs.YtmojlhpkidbklaaW.PrintMore
open Go.Proofs.Ytmojlhpkidbklaa.Pure (awake29)
abbrev Deed := S72
theorem zero_16 (w : World) : (zeroValue 77).run Try.prog w = .ok (.agg (agC .i64 16 (fun _ => 0))) w := by
  rw [Try.zeroValue77]; rfl
attribute [local go_sem ↓] zero_trk zero_16 ldTrk_eq Go.wp_at_zero Go.wp_at_succ
theorem awake29_any (w : World) : Calls Try.prog 43 #[] w fun e w' => e = .returned (.bool true) ∧ Below w.heap.size w w' := by
  obtain ⟨k, hk⟩ := awake29
  exact spencelaw29_awake.calls k true w (hk k (Nat.le_refl _))
/-- The track, and the law's own two rows beside it, say the same. -/
def Tr3 (t : Nat → Int) (v W : World) : Prop :=
  W.heap[v.heap.size]? = some (.cells (agC .i64 32 t) 69 (0, 0)) ∧ W.heap[v.heap.size + 1]? = some (.cells (agC .i64 16 fun q => t (q * 2)) 77 (0, 0)) ∧
    W.heap[v.heap.size + 1 + 1]? = some (.cells (agC .i64 16 fun q => t (q * 2 + 1)) 77 (0, 0)) ∧ Below v.heap.size v W
section
variable {t : Nat → Int} {v W W' : World}
theorem Tr3.drew (h : Tr3 t v W) : Tr3 t v W.drew := ⟨blk_drew h.1, blk_drew h.2.1, blk_drew h.2.2.1, below_drew h.2.2.2⟩
theorem Tr3.step (h : Tr3 t v W) (hb : Below W.heap.size W W') : Tr3 t v W' := ⟨blk_below h.1 hb, blk_below h.2.1 hb, blk_below h.2.2.1 hb, below_step h.2.2.2 hb⟩
theorem Tr3.ld (h : Tr3 t v W) : (ldTrk (.pointer (some ⟨v.heap.size, 0, none⟩))).run Try.prog W = .ok (.agg (agC .i64 32 t)) W := ldTrk_run h.1
theorem Tr3.next (h : Tr3 t v W) (q : Nat) (hq : q < 16) : W.cell? ⟨v.heap.size + 1, q, none⟩ = some (.int .i64 (t (q * 2))) := by
  have := blk_cell h.2.1 q
  rw [agC_get _ _ _ _ hq] at this
  exact this
theorem Tr3.long (h : Tr3 t v W) (q : Nat) (hq : q < 16) : W.cell? ⟨v.heap.size + 1 + 1, q, none⟩ = some (.int .i64 (t (q * 2 + 1))) := by
  have := blk_cell h.2.2.1 q
  rw [agC_get _ _ _ _ hq] at this
  exact this
end
/-- a good deed, noted: in the track, and in the law's two rows -/
theorem Tr3.noted {t : Nat → Int} {v W : World} (q : Nat) (a b X : Int) (h0 : W.heap[v.heap.size]? = some (.cells (agC .i64 32 (noteF t q a b)) 69 (0, 0))) (h1 : W.heap[v.heap.size + 1]? = some (.cells (agC .i64 16 fun q => t (q * 2)) 77 (0, 0)))
    (h2 : W.heap[v.heap.size + 1 + 1]? = some (.cells (agC .i64 16 fun q => t (q * 2 + 1)) 77 (0, 0))) (hb : Below v.heap.size v W) (hq : q < 16) (ha : 0 ≤ a) (hab : a < b) (hb4 : b ≤ 4096)
    (hX : X = if t (q * 2 + 1) > 0 ∧ (a = t (q * 2) ∨ a = t (q * 2) - 1) then t (q * 2 + 1) + 1 else 1) :
    Tr3 (noteF t q a b) v ((W.setCell ⟨v.heap.size + 1 + 1, q, none⟩ (.int .i64 X)).setCell ⟨v.heap.size + 1, q, none⟩ (.int .i64 b)) := by
  have hN : noteF t q a b = putF (putF t (q * 2 + 1) X) (q * 2) b := by
    unfold noteF; rw [if_pos (by omega), hX]; rfl
  have e1 : putF (fun q => t (q * 2)) q b = fun j => noteF t q a b (j * 2) := by
    rw [hN]; funext j; unfold putF
    by_cases e : j = q
    · subst e; rw [if_pos rfl, if_pos rfl]
    · rw [if_neg e, if_neg (by omega), if_neg (by omega)]
  have e2 : putF (fun q => t (q * 2 + 1)) q X = fun j => noteF t q a b (j * 2 + 1) := by
    rw [hN]; funext j; unfold putF
    by_cases e : j = q
    · subst e; rw [if_pos rfl, if_neg (by omega), if_pos rfl]
    · rw [if_neg e, if_neg (by omega), if_neg (by omega)]
  have h2' := blk_set h2 q (.int .i64 X)
  rw [agC_set, e2] at h2'
  have h1' := blk_set (blk_far h1 (p := ⟨v.heap.size + 1 + 1, q, none⟩) (by show v.heap.size + 1 ≠ v.heap.size + 1 + 1; omega) (.int .i64 X)) q (.int .i64 b)
  rw [agC_set, e1] at h1'
  exact ⟨blk_far (blk_far h0 (p := ⟨v.heap.size + 1 + 1, q, none⟩) (by show v.heap.size ≠ v.heap.size + 1 + 1; omega) _) (p := ⟨v.heap.size + 1, q, none⟩) (by show v.heap.size ≠ v.heap.size + 1; omega) _, h1',
    blk_far h2' (p := ⟨v.heap.size + 1, q, none⟩) (by show v.heap.size + 1 + 1 ≠ v.heap.size + 1; omega) _, below_set (below_set hb (by omega)) (by omega)⟩
theorem notes_out (t : Nat → Int) (o : Int) (h : ¬ (0 ≤ o ∧ o < 16)) : longF t o = 0 ∧ nextF t o = 0 := by
  unfold longF nextF; rw [if_neg h, if_neg h]; exact ⟨rfl, rfl⟩
set_option linter.unusedSimpArgs false in
set_option maxHeartbeats 16000000 in
set_option maxRecDepth 100000 in
theorem notes_calls (A0 : Option Addr) (c0 : Nat) (l0 : List Deed) (a1 : Int) (w : World) (hr0 : Kd.C k72 w A0 l0.length l0) (_hc0 : l0.length ≤ c0) :
    Calls Try.prog 12 #[.slice A0 l0.length c0, .int .i64 a1] w fun e w' => e = .returned (.bool true) ∧ Below w.heap.size w w' := by
  have HR0 := Aside0.mk hr0
  clear hr0 _hc0
  by_cases d0 : (l0.length : Int) > 100
  · have d0' := decide_eq_true d0
    go_enter Try.func12, Try.ntmps12
    go_wp2_with (fail)
    refine (awake29_any _).mono ?_
    rintro e w' ⟨rfl, hb⟩
    dsimp only
    go_wp2_with (fail)
    go_ret
    exact ⟨rfl, hb⟩
  have d0' := decide_eq_false d0
  go_enter Try.func12, Try.ntmps12
  go_wp2_with (fail)
  refine (awake29_any _).mono ?_
  rintro e w1 ⟨rfl, hb1⟩
  dsimp only
  have HB1 := Aside0.mk hb1
  clear hb1
  go_wp2_with (fail)
  refine (new_calls _).mono ?_
  rintro e v ⟨rfl, hb2⟩
  dsimp only
  have HB := Aside0.mk (below_step HB1.out hb2)
  clear hb2 HB1
  have BK1 := blk_new v (.cells (agC .i64 32 trkZ) 69 (0, 0))
  have HV := below_alloc (Below.refl v.heap.size v) (.cells (agC .i64 32 trkZ) 69 (0, 0))
  have HS := alloc_size v (.cells (agC .i64 32 trkZ) 69 (0, 0))
  replace BK1 := Aside0.mk BK1
  replace HV := Aside0.mk HV
  replace HS := Aside0.mk HS
  go_wp2_with (first | ((with_reducible refine gate_store (t := 69) (p := 5) rfl ?_); refine row_store2 rfl 69 (.tmp 5) (.tmp 16) rfl rfl v.heap.size rfl .i64 32 trkZ rfl _ 69 BK1.out info_trk (agC_size _ _ _) ?_))
  have KK : Tr3 trkZ v ((((v.alloc (.cells (agC .i64 32 trkZ) 69 (0, 0))).setRow v.heap.size (agC .i64 32 trkZ)).alloc (.cells (agC .i64 16 (fun _ => 0)) 77 (0, 0))).alloc (.cells (agC .i64 16 (fun _ => 0)) 77 (0, 0))) := by
    have h1 := blk_new ((v.alloc (.cells (agC .i64 32 trkZ) 69 (0, 0))).setRow v.heap.size (agC .i64 32 trkZ)) (.cells (agC .i64 16 (fun _ => 0)) 77 (0, 0))
    have h2 := blk_new (((v.alloc (.cells (agC .i64 32 trkZ) 69 (0, 0))).setRow v.heap.size (agC .i64 32 trkZ)).alloc (.cells (agC .i64 16 (fun _ => 0)) 77 (0, 0))) (.cells (agC .i64 16 (fun _ => 0)) 77 (0, 0))
    rw [alloc_size] at h2
    rw [size_setRow, alloc_size] at h1 h2
    exact ⟨blk_alloc (blk_alloc (row_put BK1.out) _) _, blk_alloc h1 _, h2, below_alloc (below_alloc (row_below HV.out (Nat.le_refl _)) _) _⟩
  generalize (((v.alloc (.cells (agC .i64 32 trkZ) 69 (0, 0))).setRow v.heap.size (agC .i64 32 trkZ)).alloc (.cells (agC .i64 16 (fun _ => 0)) 77 (0, 0))).alloc (.cells (agC .i64 16 (fun _ => 0)) 77 (0, 0)) = v3 at KK ⊢
  replace KK := Aside0.mk KK
  clear BK1 HV HS d0'
  go_loopg [9, 19] l0.length (fun gg _ s19 wr => ∃ kk : Nat, ∃ t : Nat → Int, kk ≤ l0.length ∧ l0.length - kk ≤ gg ∧ s19 = .int .i64 kk ∧ Aside0 (TrkOk kk t) ∧ Aside0 (Tr3 t v wr))
  case atStart => exact ⟨0, trkZ, Nat.zero_le _, by omega, rfl, ⟨trkZ_ok⟩, KK⟩
  case round =>
    clear KK
    obtain ⟨kk, t, hkk, hg, rfl, hok, KK⟩ := hrel
    by_cases hlt : kk < l0.length
    · have hltz : (kk : Int) < (l0.length : Int) := by omega
      have HBr := below_step HB.out KK.out.2.2.2
      obtain ⟨ad, e1, hx0, hx1, hx2⟩ := at_T72 HR0.out (kk : Int) (by omega) hltz
      cases e1
      replace hx0 := (HBr.cell (World.block_lt_of_cell? w _ hx0)).trans hx0
      replace hx1 := (HBr.cell (World.block_lt_of_cell? w _ hx1)).trans hx1
      replace hx2 := (HBr.cell (World.block_lt_of_cell? w _ hx2)).trans hx2
      simp only [Int.toNat_natCast] at hx0 hx1 hx2
      generalize (rd_T72 l0 kk).f0 = o at hx0
      generalize (rd_T72 l0 kk).f1 = a at hx1
      generalize (rd_T72 l0 kk).f2 = b at hx2
      have KD := KK.out
      have hD := blk_lt KD.2.2.1
      obtain ⟨D, hDD⟩ : ∃ D, wr.heap.size = D := ⟨_, rfl⟩
      have L := ldTrk_run (blk_alloc KD.1 (.cells #[.int .i64 o, .int .i64 a, .int .i64 b] 72 (0, 0)))
      have BD := Aside0.mk (blk_new wr (.cells #[.int .i64 o, .int .i64 a, .int .i64 b] 72 (0, 0)))
      have K1 : Tr3 t v (wr.alloc (.cells #[.int .i64 o, .int .i64 a, .int .i64 b] 72 (0, 0))) := ⟨blk_alloc KD.1 _, blk_alloc KD.2.1 _, blk_alloc KD.2.2.1 _, below_alloc KD.2.2.2 _⟩
      replace K1 := Aside0.mk K1
      have hn := note_calls t o a b (small_of kk (by omega) t hok.out o)
      replace hn := Aside0.mk hn
      clear KD KK HBr
      go_wp2_with (fail)
      refine (hn.out _).mono ?_
      rintro e w4 ⟨rfl, hb⟩
      dsimp only
      have K2 := Aside0.mk (K1.out.step hb)
      rw [hDD] at BD hD
      have BD2 := Aside0.mk (blk_below BD.out hb)
      clear K1 BD hb hn L hx0 hx1 hx2 HR0 hDD
      by_cases g1 : o < 0
      · have hN : noteF t o a b = t := by unfold noteF; rw [if_neg (by omega)]
        have f1 := decide_eq_true g1
        go_wp2_with (first | ((with_reducible refine gate_store (t := 69) (p := 5) rfl ?_); refine row_store rfl 69 (.tmp 5) (.tmp 30) rfl rfl v.heap.size rfl .i64 32 _ rfl _ 69 K2.out.1 info_trk (agC_size _ _ _) ?_; intro w5 X1 X2 X3; have hc0 : w5.cell? ⟨D, 0, none⟩ = some (.int .i64 o) := (blk_cell ((X2 D (by omega)).trans BD2.out) 0).trans rfl; have hc1 : w5.cell? ⟨D, 1, none⟩ = some (.int .i64 a) := (blk_cell ((X2 D (by omega)).trans BD2.out) 1).trans rfl; have hc2 : w5.cell? ⟨D, 2, none⟩ = some (.int .i64 b) := (blk_cell ((X2 D (by omega)).trans BD2.out) 2).trans rfl; have N5 := Aside0.mk ((X2 (v.heap.size + 1) (by omega)).trans K2.out.2.1); have L5 := Aside0.mk ((X2 (v.heap.size + 1 + 1) (by omega)).trans K2.out.2.2.1); have B5 := Aside0.mk (X3 _ _ K2.out.2.2.2 (Nat.le_refl _)); replace X1 := Aside0.mk X1; clear X2 X3))
        go_roundg (l0.length - (kk + 1))
        case measure => omega
        case rel => exact ⟨kk + 1, t, by omega, by omega, by go_num, ⟨fun q => by have := hok.out q; omega⟩, ⟨by rw [← hN]; exact X1.out, N5.out, L5.out, B5.out⟩⟩
      have f1 := decide_eq_false g1
      by_cases g2 : o > 15
      · have hN : noteF t o a b = t := by unfold noteF; rw [if_neg (by omega)]
        have f2 := decide_eq_true g2
        go_wp2_with (first | ((with_reducible refine gate_store (t := 69) (p := 5) rfl ?_); refine row_store rfl 69 (.tmp 5) (.tmp 30) rfl rfl v.heap.size rfl .i64 32 _ rfl _ 69 K2.out.1 info_trk (agC_size _ _ _) ?_; intro w5 X1 X2 X3; have hc0 : w5.cell? ⟨D, 0, none⟩ = some (.int .i64 o) := (blk_cell ((X2 D (by omega)).trans BD2.out) 0).trans rfl; have hc1 : w5.cell? ⟨D, 1, none⟩ = some (.int .i64 a) := (blk_cell ((X2 D (by omega)).trans BD2.out) 1).trans rfl; have hc2 : w5.cell? ⟨D, 2, none⟩ = some (.int .i64 b) := (blk_cell ((X2 D (by omega)).trans BD2.out) 2).trans rfl; have N5 := Aside0.mk ((X2 (v.heap.size + 1) (by omega)).trans K2.out.2.1); have L5 := Aside0.mk ((X2 (v.heap.size + 1 + 1) (by omega)).trans K2.out.2.2.1); have B5 := Aside0.mk (X3 _ _ K2.out.2.2.2 (Nat.le_refl _)); replace X1 := Aside0.mk X1; clear X2 X3))
        go_roundg (l0.length - (kk + 1))
        case measure => omega
        case rel => exact ⟨kk + 1, t, by omega, by omega, by go_num, ⟨fun q => by have := hok.out q; omega⟩, ⟨by rw [← hN]; exact X1.out, N5.out, L5.out, B5.out⟩⟩
      have f2 := decide_eq_false g2
      by_cases g3 : a < 0
      · have hN : noteF t o a b = t := by unfold noteF; rw [if_neg (by omega)]
        have f3 := decide_eq_true g3
        go_wp2_with (first | ((with_reducible refine gate_store (t := 69) (p := 5) rfl ?_); refine row_store rfl 69 (.tmp 5) (.tmp 30) rfl rfl v.heap.size rfl .i64 32 _ rfl _ 69 K2.out.1 info_trk (agC_size _ _ _) ?_; intro w5 X1 X2 X3; have hc0 : w5.cell? ⟨D, 0, none⟩ = some (.int .i64 o) := (blk_cell ((X2 D (by omega)).trans BD2.out) 0).trans rfl; have hc1 : w5.cell? ⟨D, 1, none⟩ = some (.int .i64 a) := (blk_cell ((X2 D (by omega)).trans BD2.out) 1).trans rfl; have hc2 : w5.cell? ⟨D, 2, none⟩ = some (.int .i64 b) := (blk_cell ((X2 D (by omega)).trans BD2.out) 2).trans rfl; have N5 := Aside0.mk ((X2 (v.heap.size + 1) (by omega)).trans K2.out.2.1); have L5 := Aside0.mk ((X2 (v.heap.size + 1 + 1) (by omega)).trans K2.out.2.2.1); have B5 := Aside0.mk (X3 _ _ K2.out.2.2.2 (Nat.le_refl _)); replace X1 := Aside0.mk X1; clear X2 X3))
        go_roundg (l0.length - (kk + 1))
        case measure => omega
        case rel => exact ⟨kk + 1, t, by omega, by omega, by go_num, ⟨fun q => by have := hok.out q; omega⟩, ⟨by rw [← hN]; exact X1.out, N5.out, L5.out, B5.out⟩⟩
      have f3 := decide_eq_false g3
      by_cases g4 : a ≥ b
      · have hN : noteF t o a b = t := by unfold noteF; rw [if_neg (by omega)]
        have f4 := decide_eq_true g4
        go_wp2_with (first | ((with_reducible refine gate_store (t := 69) (p := 5) rfl ?_); refine row_store rfl 69 (.tmp 5) (.tmp 30) rfl rfl v.heap.size rfl .i64 32 _ rfl _ 69 K2.out.1 info_trk (agC_size _ _ _) ?_; intro w5 X1 X2 X3; have hc0 : w5.cell? ⟨D, 0, none⟩ = some (.int .i64 o) := (blk_cell ((X2 D (by omega)).trans BD2.out) 0).trans rfl; have hc1 : w5.cell? ⟨D, 1, none⟩ = some (.int .i64 a) := (blk_cell ((X2 D (by omega)).trans BD2.out) 1).trans rfl; have hc2 : w5.cell? ⟨D, 2, none⟩ = some (.int .i64 b) := (blk_cell ((X2 D (by omega)).trans BD2.out) 2).trans rfl; have N5 := Aside0.mk ((X2 (v.heap.size + 1) (by omega)).trans K2.out.2.1); have L5 := Aside0.mk ((X2 (v.heap.size + 1 + 1) (by omega)).trans K2.out.2.2.1); have B5 := Aside0.mk (X3 _ _ K2.out.2.2.2 (Nat.le_refl _)); replace X1 := Aside0.mk X1; clear X2 X3))
        go_roundg (l0.length - (kk + 1))
        case measure => omega
        case rel => exact ⟨kk + 1, t, by omega, by omega, by go_num, ⟨fun q => by have := hok.out q; omega⟩, ⟨by rw [← hN]; exact X1.out, N5.out, L5.out, B5.out⟩⟩
      have f4 := decide_eq_false g4
      by_cases g5 : b > 4096
      · have hN : noteF t o a b = t := by unfold noteF; rw [if_neg (by omega)]
        have f5 := decide_eq_true g5
        go_wp2_with (first | ((with_reducible refine gate_store (t := 69) (p := 5) rfl ?_); refine row_store rfl 69 (.tmp 5) (.tmp 30) rfl rfl v.heap.size rfl .i64 32 _ rfl _ 69 K2.out.1 info_trk (agC_size _ _ _) ?_; intro w5 X1 X2 X3; have hc0 : w5.cell? ⟨D, 0, none⟩ = some (.int .i64 o) := (blk_cell ((X2 D (by omega)).trans BD2.out) 0).trans rfl; have hc1 : w5.cell? ⟨D, 1, none⟩ = some (.int .i64 a) := (blk_cell ((X2 D (by omega)).trans BD2.out) 1).trans rfl; have hc2 : w5.cell? ⟨D, 2, none⟩ = some (.int .i64 b) := (blk_cell ((X2 D (by omega)).trans BD2.out) 2).trans rfl; have N5 := Aside0.mk ((X2 (v.heap.size + 1) (by omega)).trans K2.out.2.1); have L5 := Aside0.mk ((X2 (v.heap.size + 1 + 1) (by omega)).trans K2.out.2.2.1); have B5 := Aside0.mk (X3 _ _ K2.out.2.2.2 (Nat.le_refl _)); replace X1 := Aside0.mk X1; clear X2 X3))
        go_roundg (l0.length - (kk + 1))
        case measure => omega
        case rel => exact ⟨kk + 1, t, by omega, by omega, by go_num, ⟨fun q => by have := hok.out q; omega⟩, ⟨by rw [← hN]; exact X1.out, N5.out, L5.out, B5.out⟩⟩
      have f5 := decide_eq_false g5
      obtain ⟨q, rfl⟩ : ∃ q : Nat, o = q := ⟨o.toNat, by omega⟩
      have hq : q < 16 := by omega
      have hz0 : (0 : Int) ≤ (q : Int) := by omega
      have hz1 : (q : Int) < 16 := by omega
      have hk := hok.out q
      have hwr : IntKind.i64.wrap (t (q * 2) - 1) = t (q * 2) - 1 := (i64_w _).trans (Pure.wrap_id (by omega))
      have hok2 := Aside0.mk (note_ok kk t q a b hok.out (by omega))
      go_wp2_with (first | ((with_reducible refine gate_store (t := 69) (p := 5) rfl ?_); refine row_store rfl 69 (.tmp 5) (.tmp 30) rfl rfl v.heap.size rfl .i64 32 _ rfl _ 69 K2.out.1 info_trk (agC_size _ _ _) ?_; intro w5 X1 X2 X3; have hc0 : w5.cell? ⟨D, 0, none⟩ = some (.int .i64 (q : Int)) := (blk_cell ((X2 D (by omega)).trans BD2.out) 0).trans rfl; have hc1 : w5.cell? ⟨D, 1, none⟩ = some (.int .i64 a) := (blk_cell ((X2 D (by omega)).trans BD2.out) 1).trans rfl; have hc2 : w5.cell? ⟨D, 2, none⟩ = some (.int .i64 b) := (blk_cell ((X2 D (by omega)).trans BD2.out) 2).trans rfl; have N5 := Aside0.mk ((X2 (v.heap.size + 1) (by omega)).trans K2.out.2.1); have L5 := Aside0.mk ((X2 (v.heap.size + 1 + 1) (by omega)).trans K2.out.2.2.1); have B5 := Aside0.mk (X3 _ _ K2.out.2.2.2 (Nat.le_refl _)); replace X1 := Aside0.mk X1; clear X2 X3; have hl0 := blk_cell L5.out q; have hl1 := blk_cell N5.out q; rw [agC_get _ _ _ _ hq] at hl0 hl1; have hw0 := blk_frozen L5.out q; have hw1 := blk_frozen N5.out q))
      by_cases hA : t (q * 2 + 1) > 0
      · have d1 := decide_eq_true hA
        by_cases hB : a = t (q * 2)
        · have d2 : (a == t (q * 2)) = true := by simp [hB]
          go_quiet (fail)
          go_wp2_with (fail)
          go_roundg (l0.length - (kk + 1))
          case measure => omega
          case rel => exact ⟨kk + 1, noteF t q a b, by omega, by omega, by go_num, ⟨by have h_ := hok2.out; rwa [show ((kk + 1 : Nat) : Int) = (kk : Int) + 1 by omega]⟩, ⟨Tr3.noted q a b _ (blk_drewN X1.out _) (blk_drewN N5.out _) (blk_drewN L5.out _) (pw_below_drewN B5.out _) hq (by omega) (by omega) (by omega) (by rw [if_pos ⟨hA, .inl hB⟩])⟩⟩
        · have d2 : (a == t (q * 2)) = false := by simp [hB]
          by_cases hC : a = t (q * 2) - 1
          · have d3 : (a == t (q * 2) - 1) = true := by simp [hC]
            replace hC := Aside0.mk hC
            go_quiet (fail)
            go_wp2_with (fail)
            go_roundg (l0.length - (kk + 1))
            case measure => omega
            case rel => exact ⟨kk + 1, noteF t q a b, by omega, by omega, by go_num, ⟨by have h_ := hok2.out; rwa [show ((kk + 1 : Nat) : Int) = (kk : Int) + 1 by omega]⟩, ⟨Tr3.noted q a b _ (blk_drewN X1.out _) (blk_drewN N5.out _) (blk_drewN L5.out _) (pw_below_drewN B5.out _) hq (by omega) (by omega) (by omega) (by rw [if_pos ⟨hA, .inr hC.out⟩])⟩⟩
          · have d3 : (a == t (q * 2) - 1) = false := by simp [hC]
            go_quiet (fail)
            go_wp2_with (fail)
            go_roundg (l0.length - (kk + 1))
            case measure => omega
            case rel => exact ⟨kk + 1, noteF t q a b, by omega, by omega, by go_num, ⟨by have h_ := hok2.out; rwa [show ((kk + 1 : Nat) : Int) = (kk : Int) + 1 by omega]⟩, ⟨Tr3.noted q a b _ (blk_drewN X1.out _) (blk_drewN N5.out _) (blk_drewN L5.out _) (pw_below_drewN B5.out _) hq (by omega) (by omega) (by omega) (by rw [if_neg (by omega)])⟩⟩
      · have d1 := decide_eq_false hA
        go_quiet (fail)
        go_wp2_with (fail)
        go_roundg (l0.length - (kk + 1))
        case measure => omega
        case rel => exact ⟨kk + 1, noteF t q a b, by omega, by omega, by go_num, ⟨by have h_ := hok2.out; rwa [show ((kk + 1 : Nat) : Int) = (kk : Int) + 1 by omega]⟩, ⟨Tr3.noted q a b _ (blk_drewN X1.out _) (blk_drewN N5.out _) (blk_drewN L5.out _) (pw_below_drewN B5.out _) hq (by omega) (by omega) (by omega) (by rw [if_neg (by omega)])⟩⟩
    · have hltz : ¬ (kk : Int) < (l0.length : Int) := by omega
      clear hok hg hkk hlt HR0
      go_wp2_with (fail)
      go_loopg [10, 95] 16 (fun gg _ s95 wr2 => ∃ q : Nat, q ≤ 16 ∧ 16 - q ≤ gg ∧ s95 = .int .i64 q ∧ Aside0 (Tr3 t v wr2))
      case atStart => exact ⟨0, by omega, by omega, rfl, KK⟩
      case round =>
        clear KK hltz
        obtain ⟨q, hq, hg, rfl, KK⟩ := hrel
        by_cases hlt : q < 16
        · have hz0 : (0 : Int) ≤ (q : Int) := by omega
          have hz1 : (q : Int) < 16 := by omega
          have HL := long_calls t q
          have HN := next_calls t q
          rw [show longF t q = t (q * 2 + 1) by unfold longF; rw [if_pos ⟨hz0, hz1⟩]; rfl] at HL
          rw [show nextF t q = t (q * 2) by unfold nextF; rw [if_pos ⟨hz0, hz1⟩]; rfl] at HN
          have n1 : (t (q * 2 + 1) != t (q * 2 + 1)) = false := by simp
          have n2 : (t (q * 2) != t (q * 2)) = false := by simp
          replace HL := Aside0.mk HL
          replace HN := Aside0.mk HN
          have hS0 := fun W h => @Tr3.ld t v W h
          have hS1 := fun W h => @Tr3.next t v W h q hlt
          have hS2 := fun W h => @Tr3.long t v W h q hlt
          replace KK := KK.out
          go_wp2_with (fail)
          go_region_held3 (fun W => Tr3 t v W) (first | exact Tr3.drew ‹_› | exact Tr3.step ‹_› ‹_›) (((first | (go_at_call 47; with_reducible refine (HL.out _).mono ?_) | (go_at_call 48; with_reducible refine (HN.out _).mono ?_)); rintro e w' ⟨rfl, hb⟩; dsimp only))
          rename_i hT
          have hT := Aside0.mk hT
          clear hS0 hS1 hS2 hb
          go_wp2_with (fail)
          go_roundg (16 - (q + 1))
          case measure => omega
          case rel => exact ⟨q + 1, by omega, by omega, by go_num, hT⟩
        · obtain rfl : q = 16 := by omega
          have hltz : ¬ ((16 : Nat) : Int) < 16 := by omega
          clear hg hq hlt
          replace KK := KK.out
          by_cases e1 : a1 ≥ 0
          · by_cases e2 : a1 < 16
            · have f1 := decide_eq_true e1
              have f2 := decide_eq_true e2
              go_wp2_with (fail)
              go_ret
              exact ⟨rfl, below_step HB.out KK.2.2.2⟩
            have HL := long_calls t a1
            have HN := next_calls t a1
            rw [(notes_out t a1 (by omega)).1] at HL
            rw [(notes_out t a1 (by omega)).2] at HN
            replace HL := Aside0.mk HL
            replace HN := Aside0.mk HN
            have f1 := decide_eq_true e1
            have f2 := decide_eq_false e2
            have L := KK.ld
            go_wp2_with (fail)
            refine (HL.out _).mono ?_
            rintro e w6 ⟨rfl, hb6⟩
            dsimp only
            have K6 := KK.step hb6
            clear L hb6 KK
            have L := K6.ld
            go_wp2_with (fail)
            refine (HN.out _).mono ?_
            rintro e w7 ⟨rfl, hb7⟩
            dsimp only
            have K7 := K6.step hb7
            clear L hb7 K6
            go_wp2_with (fail)
            go_ret
            exact ⟨rfl, below_step HB.out K7.2.2.2⟩
          have HL := long_calls t a1
          have HN := next_calls t a1
          rw [(notes_out t a1 (by omega)).1] at HL
          rw [(notes_out t a1 (by omega)).2] at HN
          replace HL := Aside0.mk HL
          replace HN := Aside0.mk HN
          have f1 := decide_eq_false e1
          have L := KK.ld
          go_wp2_with (fail)
          refine (HL.out _).mono ?_
          rintro e w6 ⟨rfl, hb6⟩
          dsimp only
          have K6 := KK.step hb6
          clear L hb6 KK
          have L := K6.ld
          go_wp2_with (fail)
          refine (HN.out _).mono ?_
          rintro e w7 ⟨rfl, hb7⟩
          dsimp only
          have K7 := K6.step hb7
          clear L hb7 K6
          go_wp2_with (fail)
          go_ret
          exact ⟨rfl, below_step HB.out K7.2.2.2⟩
end Go.Proofs.Ytmojlhpkidbklaa.Ag
namespace Go.Proofs.Ytmojlhpkidbklaa.PAll
open Go.RowKit Go.Proofs.Ytmojlhpkidbklaa.Xw Go.Proofs.YtmojlhpkidbklaaW.PrintWords Go.Proofs.YtmojlhpkidbklaaW.PrintLast Go.Proofs.YtmojlhpkidbklaaW.PrintMore
theorem spencelaw29_PrefetchNotes.calls (A0 : Option Addr) (c0 : Nat) (l0 : List S72) (a1 : Int) (r : Bool) (w : World) (hr0 : Kd.C k72 w A0 l0.length l0) (hc0 : l0.length ≤ c0) (h : spencelaw29_PrefetchNotes.f l0 a1 = some r) :
    Calls Try.prog 12 #[.slice A0 l0.length c0, .int .i64 a1] w fun e w' => e = .returned (.bool r) ∧ Below w.heap.size w w' := by
  obtain rfl := Option.some.inj h
  exact Ag.notes_calls A0 c0 l0 a1 w hr0 hc0
end Go.Proofs.Ytmojlhpkidbklaa.PAll
namespace Go.Proofs.Ytmojlhpkidbklaa.Pure
open Go.Proofs.Ytmojlhpkidbklaa.PAll
theorem PrefetchNotes (l0 : List S72) (a1 : Int) (_ : l0.length * 24 ≤ 140737488351232) (_ : ∀ x ∈ l0, (Lit.int .i64 x.f0).wf = true ∧ (Lit.int .i64 x.f1).wf = true ∧ (Lit.int .i64 x.f2).wf = true) (_ : (Lit.int .i64 a1).wf = true) : spencelaw29_PrefetchNotes.f l0 a1 = some true := rfl
end Go.Proofs.Ytmojlhpkidbklaa.Pure
namespace Go.Proofs.Ytmojlhpkidbklaa.prefetchNotes
open Go.ChangeShapes Go.WideShapes Go.ChangeAt Go.RowKit Go.Proofs.Ytmojlhpkidbklaa.Rd Go.Proofs.Ytmojlhpkidbklaa.PAll Go.Proofs.YtmojlhpkidbklaaW.PrintWords
open Go.ChangeMaps (open_string shut_string)
set_option linter.unusedVariables false
theorem own : ownKnob Try.prog.godebug = none := by kernel_rfl
theorem laidOut : laidOutB Try.prog = true := by kernel_rfl
def ok72 (x : S72) : Prop := (Lit.int .i64 x.f0).wf = true ∧ (Lit.int .i64 x.f1).wf = true ∧ (Lit.int .i64 x.f2).wf = true
theorem o72 : Opens Try.prog 72 k72 ok72 := opens_struct Try.underlying72 (opensF_cons (opens_int Try.underlying3) rfl (by kernel_rfl) rfl (opensF_cons (opens_int Try.underlying3) rfl (by kernel_rfl) rfl (opensF_one (opens_int Try.underlying3) rfl (by kernel_rfl)))) (by kernel_rfl) (fun x : S72 => (x.f0, x.f1, x.f2)) (fun p => ⟨p.1, p.2.1, p.2.2⟩) (fun _ => rfl)
set_option maxRecDepth 100000 in
set_option maxHeartbeats 4000000 in
theorem lifted (os : Os) (started : os.Started) (H : Type) (enc : TypeId × Value → H) :
    ReturnsInHanded {} Try.checked os 12 .any (Rows.prefetchNotesSpec.pre6 enc Try.prog Try.f12 Rows.prefetchNotesRow.domain false) (Rows.prefetchNotesSpec.post enc Try.prog Try.f12 false true false false) := by
  refine returnsInHanded_of_change_sized (C := Try.checked) own started (by kernel_rfl) Try.func12
    (ChangeSpec.witness6 (enc := enc) (C := Try.checked) false ⟨#[], #[.slice none 0 0, .int .i64 0], []⟩ 8 (by kernel_rfl) (by kernel_rfl) (by kernel_rfl) (by kernel_rfl)) ?_
  intro W base args ds gs before hval0 hW hcnd hsz0 _
  have hsz : (DataW.weightsEach Try.prog (Try.f12.params.toList ++ Rows.prefetchNotesSpec.plain.varTypes Try.prog) (ds ++ gs)).all (· ≤ reachBytes) = true := hsz0
  have hval : ∀ (j : Nat) t v, Try.f12.params[j]? = some t → args[j]? = some v → Value.okWide Try.prog W .any base t v := hval0
  have hW' := hW
  obtain ⟨p, q, hA0, hV, rfl, hfz, hnd⟩ := hW
  have hA : DataW.TrodAll enc Try.prog W 0 (fun _ => true) true Try.f12.params.toList args.toList ds p := hA0
  rw [Try.params12] at hA hval hsz
  obtain ⟨v0, vs0, d0, ds0, p0, q0, hargs, rfl, rfl, h0, r0⟩ := trodAll_cons hA
  obtain ⟨v1, vs1, d1, ds1, p1, q1, rfl, rfl, rfl, h1, r1⟩ := trodAll_cons r0
  obtain ⟨rfl, rfl, rfl⟩ := trodAll_nil r1
  obtain rfl : args = #[v0, v1] := by cases args; simp_all
  obtain ⟨rfl, rfl⟩ := trodVars_none hV
  have k0 := h0
  have lt0 : ∀ x ∈ p0, x.block < W.heap.size := by obtain ⟨m, hm⟩ := k0; exact DataW.trod_lt m _ _ _ hm
  have k1 := h1
  have lt1 : ∀ x ∈ p1, x.block < W.heap.size := by obtain ⟨m, hm⟩ := k1; exact DataW.trod_lt m _ _ _ hm
  obtain ⟨A0, c0, l0, rfl, hc0, hC0, hok0, hb0⟩ := open_row Try.underlying64 o72 (by kernel_rfl) (hval 0 64 v0 rfl rfl) h0 hsz (j := 0) rfl rfl (B := 24) (by kernel_rfl)
  obtain ⟨a1, rfl, rfl, rfl, w1⟩ := open_int Try.underlying3 (hval 1 3 v1 rfl rfl) h1
  clear hA0 hval0 hsz0 hsz
  have hk := Pure.PrefetchNotes l0 a1 hb0 hok0 w1
  refine (PAll.spencelaw29_PrefetchNotes.calls _ _ l0 a1 true W hC0 hc0 hk).mono fun e W' ⟨he, hd⟩ => ?_
  have bel : Below W.heap.size W W' := hd
  subst he
  exact ⟨_, rfl, _, _, _, [], _, [], hW', trodAll_mk1 (shut_bool Try.underlying4 _), (trodAll_cons_mk (Below.trod laidOut (by kernel_rfl) (of_decide_eq_true (by kernel_rfl)) k0 bel lt0) (trodAll_cons_mk (shut_int Try.underlying3 w1) trodAll_mk0)), rfl, bel.frame _, fun h => by cases h⟩
theorem over : Rows.prefetchNotesRow.holds Try.pinned (OpenSpec.ofChange Rows.prefetchNotesSpec) :=
  OpenClaim.holds_of_wide 12 Try.f12 rfl rfl rfl rfl rfl rfl rfl ⟨rfl, rfl, rfl, rfl, rfl⟩ rfl rfl rfl rfl rfl (by kernel_rfl) Try.func12 (by kernel_rfl)
    (of_decide_eq_true (by kernel_rfl)) (by unfold Func.isWrapper; first | (rw [if_pos (by decide +kernel)]; kernel_rfl) | (rw [if_neg (by decide +kernel)]; exact ⟨rfl, rfl⟩))
    (fun os started H enc _ => lifted os started H enc)
theorem proved : Rows.PrefetchNotesSaid := over
end Go.Proofs.Ytmojlhpkidbklaa.prefetchNotes
namespace Go.Proofs.Ytmojlhpkidbklaa
theorem prefetchNotes_holds : Rows.PrefetchNotesSaid := prefetchNotes.proved
#print axioms prefetchNotes_holds
end Go.Proofs.Ytmojlhpkidbklaa
