/- What the law BitmapTells leans on (part 2 of 3): Go functions as plain functions, that the code comes to them, and what these answer. -/
import Derived.WalkKit
import Derived.Lib.Bytealg
import Derived.Laws.StandIn
import Derived.Lib.ConvBytes
import Derived.Laws.BytesArg
import Derived.Test.YtcnlmpjoghogbaaDoorKBitmapTells0
import Derived.Test.YtcnlmpjoghogbaaDoorProg
import Derived.WalkMore
import Derived.Laws.Cover1
import Derived.LoopTactic
import Derived.Lib.Hide
import Derived.Below
import Derived.Tactics
import Derived.KernelRfl
import Derived.Laws.Rows
import Derived.Laws.IdiomCopy
import Derived.Laws.CopyOwn
import Derived.Deep.LoopGhost
import Derived.Shelf.Spec.TrailingZeros
import Derived.Test.YtcnlmpjoghogbaaDoorRows
import Derived.Lib.LaidU8
import Derived.ProofKit
import Derived.OpenShut
import Derived.ShutString
import Derived.ChangeOld
import Derived.SizedLaws
import Derived.Lib.SmallJoins
import Derived.Lib.SliceRun
import Derived.Deep.Draws
import Derived.Deep.AppendLies
import Derived.Maps.AppendAt
import Derived.OwnWalk
import Derived.Laws.MakeOwn
import Derived.Laws.OwnMore
import Derived.Deep.OwnRows
import Derived.Laws.Slices
import Derived.RowKit3
import Derived.Deep.QuietTactic
import Derived.BigQuiet
import Derived.WideLaws
import Derived.Deep.DeepCutAuto
import Derived.Deep.CutBlock
import Derived.Deep.RegionHeld3
import Derived.Lib.AppendStr
import Derived.ArgAppend
import Derived.OrdersHeld
import Derived.Laws.BitsLemmas
import Derived.RowKit
import Derived.Deep.MidRow
import Derived.ChangeKeysEq
import Derived.Laws.StructEq
import Derived.Lib.TrailingZeros
import Derived.RangeFuncNested
import Derived.RangeFuncBound
import Derived.RangeFuncCalls
import Derived.RangeFuncLeaves
import Derived.RangeFuncBox
import Derived.Shelf.Abstract
import Derived.Shelf.RegionOpen
import Derived.OwnWalkIn
import Derived.TacticsInMore
import Derived.LoopNIn
import Derived.LoopIn
import Derived.Laws.Bits128
namespace Go.Proofs.YtcnlmpjoghogbaaDoor.Xw
open Go.RowKit Go.Proofs.YtcnlmpjoghogbaaDoorW.PrintWords
theorem ne_empty (l : List UInt8) : Ending.returned (Value.bool !l.isEmpty) = Ending.returned (Value.bool (l != [])) := by cases l <;> rfl
theorem eq_empty (l : List UInt8) : Ending.returned (Value.bool l.isEmpty) = Ending.returned (Value.bool (l == [])) := by cases l <;> rfl
def lowI (x : Int) : Int := if 65 ≤ x ∧ x ≤ 90 then x - 65 + 97 else x
def lowAt (s : ByteArray) (k j : Nat) : Int := if j < k then lowI (bt s j) else bt s j
structure LowIn (s : ByteArray) (g : Nat) (k : Nat) (w wr : World) : Prop where
  cells : ∀ j, j < s.size → wr.cell? ⟨g, j, none⟩ = some (.int .u8 (lowAt s k j))
  free : ∀ j, j < s.size → wr.frozen? ⟨g, j, none⟩ = false
  below : Below w.heap.size w wr
end Go.Proofs.YtcnlmpjoghogbaaDoor.Xw
namespace Go.Proofs.YtcnlmpjoghogbaaDoor.Ag
open Go.RowKit Go.Proofs.YtcnlmpjoghogbaaDoor.Xw Go.Proofs.YtcnlmpjoghogbaaDoorW.PrintWords Go.Proofs.YtcnlmpjoghogbaaDoorW.PrintLast Go.Proofs.YtcnlmpjoghogbaaDoorW.PrintMore
def agC (k : IntKind) (n : Nat) (f : Nat → Int) : Array Value := ((List.range n).map fun i => Value.int k (f i)).toArray
theorem agC_size (k n f) : (agC k n f).size = n := by simp [agC]
theorem agC_get (k n f) (i : Nat) (h : i < n) : (agC k n f)[i]? = some (.int k (f i)) := by simp [agC, h]
theorem agC_one (k n f) : (agC k n f).all (·.oneCell') = true := by
  rw [Array.all_eq_true_iff_forall_mem]
  intro x hx
  simp only [agC, List.mem_toArray, List.mem_map] at hx
  obtain ⟨i, _, rfl⟩ := hx
  rfl
theorem alloc_size (w : World) (o : Obj) : (w.alloc o).heap.size = w.heap.size + 1 := by
  unfold World.alloc
  exact Array.size_push _
def putF (f : Nat → Int) (q : Nat) (v : Int) : Nat → Int := fun j => if j = q then v else f j
theorem agC_set (k n f) (q : Nat) (v : Int) : (agC k n f).setIfInBounds q (.int k v) = agC k n (putF f q v) := by
  apply Array.ext
  · simp [agC]
  · intro i h1 h2
    simp only [agC, putF, List.getElem_toArray, List.getElem_map, List.getElem_range]
    by_cases hq : q = i
    · subst hq; simp
    · have : ¬ i = q := fun e => hq e.symm
      simp [hq, this]
theorem cell_new (w : World) (f : Nat → Int) (k : IntKind) (n t j : Nat) (h : j < n) : (w.alloc (Obj.cells (agC k n f) t)).cell? ⟨w.heap.size, j, none⟩ = some (.int k (f j)) := by
  have := blk_cell (blk_new w (.cells (agC k n f) t (0, 0))) j
  rw [agC_get k n f j h] at this
  exact this
section
variable {P : Program} {ops : Array Oper} {rest : List Oper} {o : Oper} {a : Act} {Q : Exit → Act → World → Prop} {W : World}
theorem ag_gate {t : TypeId} {x : Operand} (_ho : o.op = .load t x) (h : wpList P ops Q (o :: rest) a W) : wpList P ops Q (o :: rest) a W := h
/-- a whole variable, read -/
theorem row_load (hgd : o.guard = none) (ty : TypeId) (x : Operand) (ho : o.op = .load ty x) (g : Nat) (hx : a.eval x = .pointer (some ⟨g, 0, none⟩)) (k : IntKind) (n : Nat) (f : Nat → Int) (t : TypeId) (d : TypeDesc)
    (hg : W.heap[g]? = some (.cells (agC k n f) t (0, 0))) (hu : P.underlying ty = some d) (hd : (match d with | .struct _ | .array _ _ => true | _ => false) = true) (hi : (P.info? ty).map (·.size) = some n)
    (h : wpList P ops Q rest (a.put o.dst (.agg (agC k n f))) W) : wpList P ops Q (o :: rest) a W :=
  wpList_load_row hgd ty x ho g hx t (agC k n f) (0, 0) d hg hu hd (by rw [hi, agC_size]) h
/-- a whole variable, written -/
theorem row_store (hgd : o.guard = none) (ty : TypeId) (x y : Operand) (ho : o.op = .store ty x y) (hN : o.dst = none) (g : Nat) (hx : a.eval x = .pointer (some ⟨g, 0, none⟩)) (k : IntKind) (n : Nat) (f : Nat → Int) (hy : a.eval y = .agg (agC k n f))
    (old : Array Value) (t : TypeId) (hg : W.heap[g]? = some (.cells old t (0, 0))) (hi : (P.info? ty).map (·.size) = some n) (ho' : old.size = n)
    (h : ∀ w1, w1.heap[g]? = some (.cells (agC k n f) t (0, 0)) → (∀ j, j ≠ g → w1.heap[j]? = W.heap[j]?) → (∀ B w0, Below B w0 W → B ≤ g → Below B w0 w1) → wpList P ops Q rest a w1) : wpList P ops Q (o :: rest) a W := by
  refine wpList_plain hgd fun K hK => ?_
  unfold Oper.wp execOp
  simp only [ho, hx, hy, Instr.storeAt, Instr.sureAddr, Sem.run_bind, Sem.run_pure, Result.andThen_ok, run_storeVar_row W g t ty old (agC k n f) hg (by rw [hi, agC_size]) (by rw [ho', agC_size]) (agC_one k n f)]
  have e : a.put o.dst undef = a := by rw [hN]; rfl
  show K (a.put o.dst undef) (W.setRow g (agC k n f))
  rw [e]
  exact hK _ _ (h _ (setRow_heap W g old (agC k n f) t (0, 0) hg) (fun j hj => setRow_other W g j _ hj) (fun B w0 hb hB => below_setRow hb hB _))
end
end Go.Proofs.YtcnlmpjoghogbaaDoor.Ag
namespace Go.Proofs.YtcnlmpjoghogbaaDoor.Ag
open Go.RowKit Go.Proofs.YtcnlmpjoghogbaaDoor.Xw Go.Proofs.YtcnlmpjoghogbaaDoorW.PrintWords Go.Proofs.YtcnlmpjoghogbaaDoorW.PrintLast Go.Proofs.YtcnlmpjoghogbaaDoorW.PrintMore
/-- The library's table stands in its variable. -/
def TabW (w : World) : Prop := ∀ j, j < 64 → w.cell? ⟨0, j, none⟩ = some (.int .u8 (Lib.deBruijn64tab.getD j 0))
theorem TabW.pos {w : World} (h : TabW w) : 0 < w.heap.size := block_lt_of_cell (h 0 (by decide))
theorem TabW.below {B : Nat} {w w' : World} (h : TabW w) (hb : Below B w w') (hB : 0 < B) : TabW w' := fun j hj => (hb.cell (p := ⟨0, j, none⟩) hB).trans (h j hj)
theorem TabW.step {w w' : World} (h : TabW w) (hb : Below w.heap.size w w') : TabW w' := h.below hb h.pos
set_option maxHeartbeats 4000000 in
set_option maxRecDepth 100000 in
theorem tz_core (x k idx : Nat) (w : World) (hx0 : ((x : Int) == 0) = false)
    (key : IntKind.u64.wrap (bits BinOp.and IntKind.u64 (x : Int) (IntKind.u64.wrap (-(x : Int))) * 285870213051353865) / 288230376151711744 = (idx : Int))
    (hi : idx < 64) (hk : k < 64) (hcell : w.cell? ⟨0, idx, none⟩ = some (.int .u8 k)) :
    Calls Tryd.prog 44 #[.int .u64 x] w fun e w' => e = .returned (.int .i64 k) ∧ w' = w := by
  go_enter Tryd.func44, Tryd.ntmps44
  go_wp2_with (simp only [key])
  go_ret
  exact ⟨rfl, rfl⟩
theorem tz_calls (x : Nat) (hx : x < 18446744073709551616) (hx0 : x ≠ 0) (w : World) (hT : TabW w) :
    Calls Tryd.prog 44 #[.int .u64 x] w fun e w' => e = .returned (.int .i64 (Lib.ctz 64 x)) ∧ w' = w := by
  obtain ⟨hlow, hk⟩ := Lib.lowest_bit 64 x hx0 hx
  obtain ⟨hi, htab⟩ := Lib.deBruijn64_at _ hk
  have hcell := hT _ hi
  rw [htab] at hcell
  exact tz_core x _ _ w (by simp; omega) (tz64_key x _ hx hx0 hlow) hi hk hcell
end Go.Proofs.YtcnlmpjoghogbaaDoor.Ag
namespace Go.Proofs.YtcnlmpjoghogbaaDoor.Ag
open Go.RowKit
theorem tab_of_reads {W : World} (h : Lib.VarReads Tryd.prog W "math/bits.deBruijn64tab" Rows.laid_math_bits_deBruijn64tab) : TabW W := by
  obtain ⟨g, t, cs, fuel, p, hg, hty, hvar, hd⟩ := h
  obtain rfl := Option.some.inj ((show Tryd.prog.globalNamed "math/bits.deBruijn64tab" = some 0 by kernel_rfl).symm.trans hg)
  obtain rfl := Option.some.inj ((show (Tryd.prog.globals[0]?).map (·.type) = some 82 by kernel_rfl).symm.trans hty)
  have hd' : DataW.trod (fun _ => ()) Tryd.prog W 0 (fun _ => true) false fuel 82 cs.toList = some (Lib.tabData .u8 (Lib.deBruijn64tab.map fun n : Nat => (n : Int)), p) := hd
  have hcs := Lib.cells_of_tab Tryd.underlying82 Tryd.underlying5 (by kernel_rfl) (by kernel_rfl) hd'
  intro c hc
  have := World.var?_cell hg hvar c
  rw [this, ← Array.getElem?_toList, hcs]
  have hl : c < Lib.deBruijn64tab.length := hc
  simp [List.getD_eq_getElem?_getD, hl]
end Go.Proofs.YtcnlmpjoghogbaaDoor.Ag
namespace Go.Proofs.YtcnlmpjoghogbaaDoor.Rd
open Go.RowKit Go.ChangeShapes Go.WideShapes Go.ChangeAt Go.Proofs.YtcnlmpjoghogbaaDoorW.PrintWords
set_option linter.unusedVariables false
set_option linter.unusedSimpArgs false
def Opens {α : Type} (P : Program) (t : TypeId) (d : Kd α) (ok : α → Prop) : Prop :=
  ∀ (H : Type) (enc : TypeId × Value → H) (W : World) (spare : Nat → Bool) (held : Bool) (fuel : Nat) (cs : List Value) (x : DataW H × List MemPlace),
    DataW.trod enc P W 0 spare held fuel t cs = some x → ∃ a, d.K W a cs ∧ ok a
section
variable {P : Program} {t e : TypeId} {α β : Type}
theorem opens_int {k : IntKind} (hu : P.underlying t = some (.int k)) : Opens P t (Kd.int k) (fun n => (Lit.int k n).wf = true) := by
  intro H enc W spare held fuel cs x h
  obtain ⟨n, rfl, _, hw⟩ := DataW.trod_int hu h
  exact ⟨n, rfl, hw⟩
theorem listed (Q : Nat → α → Prop) : ∀ n, (∀ i, i < n → ∃ a, Q i a) → ∃ l : List α, l.length = n ∧ ∀ i a, l[i]? = some a → Q i a
  | 0, _ => ⟨[], rfl, fun i a h => by simp at h⟩
  | n + 1, h => by
    obtain ⟨l, hl, hq⟩ := listed Q n (fun i hi => h i (by omega))
    obtain ⟨a, ha⟩ := h n (by omega)
    refine ⟨l ++ [a], by simp [hl], fun i b hb => ?_⟩
    by_cases hi : i < l.length
    · rw [List.getElem?_append_left hi] at hb
      exact hq i b hb
    · have : i < (l ++ [a]).length := (List.getElem?_eq_some_iff.1 hb).1
      have hi2 : i = l.length := by simp at this; omega
      subst hi2
      simp at hb
      subst hb
      rw [hl]; exact ha
/-- A slice, opened: its elements are of the kind. -/
theorem open_elems {H : Type} {enc : TypeId × Value → H} {W : World} {spare : Nat → Bool} {held : Bool} {fuel : Nat} {cs : List Value} {x : DataW H × List MemPlace} {d : Kd α} {ok : α → Prop}
    (hu : P.underlying t = some (.slice e)) (he : Opens P e d ok) (hc : P.cellsOf e = d.sz) (h : DataW.trod enc P W 0 spare held fuel t cs = some x) :
    ∃ A c, ∃ l : List α, cs = [.slice A l.length c] ∧ l.length ≤ c ∧ d.C W A l.length l ∧ (∀ y ∈ l, ok y) ∧
      (l = [] ∨ ∃ elems rest, x.1 = .slice elems rest ∧ elems.length = l.length) := by
  rcases DataW.trod_slice hu h with ⟨rfl, rfl⟩ | ⟨a, len, cap, elems, rest, n, rfl, rfl, rfl, hb, hl, hm, hlen, hel, _⟩
  · exact ⟨none, 0, [], rfl, Nat.le_refl _, ⟨rfl, by simp, fun h => by simp at h⟩, by simp, .inl rfl⟩
  · obtain ⟨l, hll, hq⟩ := listed (fun i y => ok y ∧ ∃ c, W.cells? 0 (a.add (i * d.sz)) d.sz = some c ∧ d.K W y c) len (fun i hi => by
      have h1 := hel i hi
      have hi' : i < elems.length := by omega
      rw [List.getElem?_eq_getElem hi', hc] at h1
      obtain ⟨c, hc1, hc2⟩ := Option.bind_eq_some_iff.1 h1
      obtain ⟨y, hy, hoy⟩ := he H enc W spare held n c _ hc2
      exact ⟨y, hoy, c, hc1, hy⟩)
    subst hll
    refine ⟨some a, cap, l, rfl, hl, ⟨rfl, by unfold maxLen at hm; omega, fun _ => ⟨a, rfl, fun j p hj => ?_⟩⟩, fun y hy => ?_, .inr ⟨_, _, rfl, by simpa using hlen⟩⟩
    · obtain ⟨_, c, hc1, hk⟩ := hq j p hj
      obtain ⟨_, hcl, hcell⟩ := World.cells?_some hc1
      refine ⟨c, hcl, hk, fun i u hu => ?_⟩
      rw [← Addr.add_add]
      have hi : i < d.sz := by rw [← hcl]; exact (List.getElem?_eq_some_iff.1 hu).1
      rw [hcell i hi]
      exact hu
    · obtain ⟨i, hi⟩ := List.mem_iff_getElem?.1 hy
      exact (hq i y hi).1
/-- A parameter that is a slice. -/
theorem open_row {H : Type} {enc : TypeId × Value → H} {W : World} {spare : Nat → Bool} {held : Bool} {v : Value} {dd : DataW H} {ps : List MemPlace} {d : Kd α} {ok : α → Prop} {r : Reach} {b0 : Nat}
    (hu : P.underlying t = some (.slice e)) (he : Opens P e d ok) (hc : P.cellsOf e = d.sz) (hv : Value.okWide P W r b0 t v) (h : DataW.Trod enc P W 0 spare held t v dd ps)
    {ts : List TypeId} {ds : List (DataW H)} {j : Nat} (hsz : (DataW.weightsEach P ts ds).all (· ≤ reachBytes) = true) (ht : ts[j]? = some t) (hd : ds[j]? = some dd) {B : Nat} (hB : P.bytesOf e = B) :
    ∃ A c, ∃ l : List α, v = .slice A l.length c ∧ l.length ≤ c ∧ d.C W A l.length l ∧ (∀ y ∈ l, ok y) ∧ l.length * B ≤ 140737488351232 := by
  obtain ⟨a, len, cap, rfl⟩ := okWide_slice hu hv
  obtain ⟨fuel, hf⟩ := h
  obtain ⟨A, c, l, hcs, hl, hC, hok, hx⟩ := open_elems hu he hc hf
  simp [Value.cells] at hcs
  obtain ⟨rfl, rfl, rfl⟩ := hcs
  refine ⟨_, _, l, rfl, hl, hC, hok, ?_⟩
  rcases hx with rfl | ⟨elems, rest, hx, hlen⟩
  · simp
  · simp only at hx
    subst hx
    have z := sized_slice hsz ht hd hu
    rw [hB] at z
    rw [← hlen]
    exact Nat.le_trans (Nat.mul_le_mul_right _ (Nat.le_add_right _ _)) (by simpa [reachBytes] using z)
end
end Go.Proofs.YtcnlmpjoghogbaaDoor.Rd
namespace Go.Proofs.YtcnlmpjoghogbaaDoor.PAll
open Go.RowKit Go.Proofs.YtcnlmpjoghogbaaDoor.Xw Go.Proofs.YtcnlmpjoghogbaaDoorW.PrintWords Go.Proofs.YtcnlmpjoghogbaaDoorW.PrintLast Go.Proofs.YtcnlmpjoghogbaaDoorW.PrintMore
attribute [local go_sem] max2_int min2_int max_two min_two max_three min_three max_four min_four   -- for this text's walks alone
set_option linter.unusedVariables false
set_option linter.unusedSimpArgs false
def errW : Option Int → Value
  | none => .nilIface
  | some c => .iface 0 (.int .i64 c)
theorem errW_none : errW none = .nilIface := rfl
theorem errW_some (c : Int) : errW (some c) = .iface 0 (.int .i64 c) := rfl
theorem info3 : (Tryd.prog.info? 3).map (fun i => (i.zero, i.size, i.bytes)) = some (some (.int .i64 0), 1, 8) := by kernel_rfl
theorem info50 : (Tryd.prog.info? 50).map (fun i => (i.zero, i.size, i.bytes)) = some (some (.agg #[(.int .i64 0), (.int .i64 0), (.bool false)]), 3, 24) := by kernel_rfl
structure S50 where
  f0 : Int
  f1 : Int
  f2 : Bool
def z50 : S50 := ⟨(0 : Int), (0 : Int), false⟩
def k50 : Kd S50 := Kd.iso (Kd.pair (Kd.int .i64) (Kd.pair (Kd.int .i64) Kd.bool)) (fun x : S50 => (x.f0, x.f1, x.f2))
theorem k50_open {w : World} {x : S50} {cs : List Value} (h : k50.K w x cs) : cs = [.int .i64 x.f0, .int .i64 x.f1, .bool x.f2] := by
  obtain ⟨_, _, rfl, rfl, ⟨_, _, rfl, rfl, rfl⟩⟩ := h
  exact rfl
theorem k50_openM {w : World} {base : Nat} {ok : Nat → Prop} {x : S50} {cs : List Value} (h : k50.M w base ok x cs) : cs = [.int .i64 x.f0, .int .i64 x.f1, .bool x.f2] := by
  obtain ⟨_, _, rfl, rfl, ⟨_, _, rfl, rfl, rfl⟩⟩ := h
  exact rfl
theorem k50_mkM (w : World) (base : Nat) (ok : Nat → Prop) (x : S50)  : k50.M w base ok x [.int .i64 x.f0, .int .i64 x.f1, .bool x.f2] := ⟨[.int .i64 x.f0], [.int .i64 x.f1, .bool x.f2], rfl, rfl, ⟨[.int .i64 x.f1], [.bool x.f2], rfl, rfl, rfl⟩⟩
def rd_T50 (xs : List S50) (i : Int) : S50 := xs.getD i.toNat z50
theorem at_T50 {w : World} {A : Option Addr} {n : Nat} {xs : List S50} (h : Kd.C k50 w A n xs) (i : Int) (h0 : 0 ≤ i) (h1 : i < n) : ∃ ad , A = some ad ∧ w.cell? (ad.add (i.toNat * 3)) = some (.int .i64 (rd_T50 xs i).f0) ∧ w.cell? ⟨(ad.add (i.toNat * 3)).block, (ad.add (i.toNat * 3)).off + 1, none⟩ = some (.int .i64 (rd_T50 xs i).f1) ∧ w.cell? ⟨(ad.add (i.toNat * 3)).block, (ad.add (i.toNat * 3)).off + 2, none⟩ = some (.bool (rd_T50 xs i).f2) := by
  obtain ⟨ad, c, e, _, hK, hc0⟩ := Kd.C_get h z50 i h0 h1
  have hc : ∀ j u, c[j]? = some u → w.cell? (ad.add (i.toNat * 3 + j)) = some u := hc0
  obtain rfl := k50_open hK
  exact ⟨ad, e, hc 0 _ rfl, by rw [← add_field _ _ 1 (by omega)]; exact hc 1 _ rfl, by rw [← add_field _ _ 2 (by omega)]; exact hc 2 _ rfl⟩
structure S53 where
  f0 : Int
  f1 : Int
theorem fld53_1 (c0 c1 : Value) (W : World) : (Instr.field 53 (.agg #[c0, c1]) 1).run Tryd.prog W = .ok (c1) W := by kernel_rfl
attribute [go_sem] fld53_1
end Go.Proofs.YtcnlmpjoghogbaaDoor.PAll
namespace Go.Proofs.YtcnlmpjoghogbaaDoor.Ag
open Go.RowKit Go.Proofs.YtcnlmpjoghogbaaDoor.Xw Go.Proofs.YtcnlmpjoghogbaaDoorW.PrintWords Go.Proofs.YtcnlmpjoghogbaaDoorW.PrintLast Go.Proofs.YtcnlmpjoghogbaaDoorW.PrintMore
theorem info_map : (Tryd.prog.info? 27).map (·.size) = some 65 := by kernel_rfl
theorem zero_map : Tryd.zeroCells27 = agC .u64 65 (fun _ => 0) := by kernel_rfl
set_option maxHeartbeats 4000000 in
set_option maxRecDepth 100000 in
theorem may_calls (i : Int) (w : World) : Calls Tryd.prog 46 #[.int .i64 i] w fun e w' => e = .returned (.bool (decide (0 ≤ i ∧ i ≤ 4096))) ∧ w' = w := by
  by_cases h1 : 0 ≤ i
  · have c1 : decide (i ≥ 0) = true := decide_eq_true h1
    by_cases h2 : i ≤ 4096
    · have c2 : decide (i ≤ 4096) = true := decide_eq_true h2
      rw [decide_eq_true ⟨h1, h2⟩]
      go_enter Tryd.func46, Tryd.ntmps46
      go_wp2
      all_goals (go_ret; exact ⟨rfl, rfl⟩)
    · have c2 : decide (i ≤ 4096) = false := decide_eq_false h2
      rw [decide_eq_false (fun h => h2 h.2)]
      go_enter Tryd.func46, Tryd.ntmps46
      go_wp2
      all_goals (go_ret; exact ⟨rfl, rfl⟩)
  · have c1 : decide (i ≥ 0) = false := decide_eq_false h1
    rw [decide_eq_false (fun h => h1 h.1)]
    go_enter Tryd.func46, Tryd.ntmps46
    go_wp2
    all_goals (go_ret; exact ⟨rfl, rfl⟩)
theorem qr (i : Int) (h0 : 0 ≤ i) (h1 : i ≤ 4096) : ∃ q r : Nat, Int.tdiv i 64 = q ∧ Int.tmod i 64 = r ∧ q < 65 ∧ r < 64 ∧ i = 64 * q + r := by
  obtain ⟨n, rfl⟩ : ∃ n : Nat, i = n := ⟨i.toNat, by omega⟩
  refine ⟨n / 64, n % 64, by rw [Int.tdiv_eq_ediv_of_nonneg (by omega)]; rfl, by rw [Int.tmod_eq_emod_of_nonneg (by omega)]; rfl, by omega, by omega, by omega⟩
def hasF (f : Nat → Int) (i : Int) : Bool := decide (0 ≤ i ∧ i ≤ 4096) && (bits .and .u64 (f (i.toNat / 64) / 2 ^ (i.toNat % 64)) 1 == 1)
def withF (f : Nat → Int) (i : Int) : Nat → Int := if 0 ≤ i ∧ i ≤ 4096 then putF f (i.toNat / 64) (bits .or .u64 (f (i.toNat / 64)) (IntKind.u64.wrap (2 ^ (i.toNat % 64)))) else f
set_option maxHeartbeats 4000000 in
set_option maxRecDepth 100000 in
theorem has_calls (f : Nat → Int) (i : Int) (w : World) : Calls Tryd.prog 17 #[.agg (agC .u64 65 f), .int .i64 i] w fun e w' => e = .returned (.bool (hasF f i)) ∧ Below w.heap.size w w' := by
  by_cases h : 0 ≤ i ∧ i ≤ 4096
  · have hm : decide (0 ≤ i ∧ i ≤ 4096) = true := decide_eq_true h
    obtain ⟨q, r, hq, hr, hq1, hr1, hi⟩ := qr i h.1 h.2
    have hc := cell_new w f .u64 65 27 q (by omega)
    have hv : hasF f i = (bits .and .u64 (f q / 2 ^ r) 1 == 1) := by
      have e1 : i.toNat / 64 = q := by omega
      have e2 : i.toNat % 64 = r := by omega
      unfold hasF; rw [hm, e1, e2, Bool.true_and]
    rw [hv]
    clear hi hv h
    go_enter Tryd.func17, Tryd.ntmps17
    go_wp2_with (fail)
    refine (may_calls i _).mono ?_
    rintro e w' ⟨rfl, rfl⟩
    rw [hm]
    dsimp only
    go_wp2_with (fail)
    go_ret
    exact ⟨rfl, below_alloc (Below.refl _ _) _⟩
  · have hm : decide (0 ≤ i ∧ i ≤ 4096) = false := decide_eq_false h
    have hv : hasF f i = false := by unfold hasF; rw [hm, Bool.false_and]
    rw [hv]
    clear hv h
    go_enter Tryd.func17, Tryd.ntmps17
    go_wp2_with (fail)
    refine (may_calls i _).mono ?_
    rintro e w' ⟨rfl, rfl⟩
    rw [hm]
    dsimp only
    go_wp2_with (fail)
    go_ret
    exact ⟨rfl, below_alloc (Below.refl _ _) _⟩
set_option maxHeartbeats 4000000 in
set_option maxRecDepth 100000 in
theorem with_calls (f : Nat → Int) (i : Int) (w : World) : Calls Tryd.prog 18 #[.agg (agC .u64 65 f), .int .i64 i] w fun e w' => e = .returned (.agg (agC .u64 65 (withF f i))) ∧ Below w.heap.size w w' := by
  have BK1 := blk_alloc (blk_new w (.cells (agC .u64 65 f) 27 (0, 0))) (.cells Tryd.zeroCells27 27 (0, 0))
  have BK2 := blk_new (w.alloc (.cells (agC .u64 65 f) 27 (0, 0))) (.cells Tryd.zeroCells27 27 (0, 0))
  have HB := below_alloc (below_alloc (Below.refl w.heap.size w) (.cells (agC .u64 65 f) 27 (0, 0))) (.cells Tryd.zeroCells27 27 (0, 0))
  rw [alloc_size] at BK2
  have BK1 := Aside0.mk BK1
  have BK2 := Aside0.mk BK2
  have HB := Aside0.mk HB
  by_cases h : 0 ≤ i ∧ i ≤ 4096
  · have hm : decide (0 ≤ i ∧ i ≤ 4096) = true := decide_eq_true h
    obtain ⟨q, r, hq, hr, hq1, hr1, hi⟩ := qr i h.1 h.2
    have hv : withF f i = putF f q (bits .or .u64 (f q) (IntKind.u64.wrap (2 ^ r))) := by
      have e1 : i.toNat / 64 = q := by omega
      have e2 : i.toNat % 64 = r := by omega
      unfold withF; rw [if_pos h, e1, e2]
    rw [hv]
    clear hi h hv
    generalize hf2 : putF f q (bits .or .u64 (f q) (IntKind.u64.wrap (2 ^ r))) = f2
    have hf2 := Aside0.mk hf2
    go_enter Tryd.func18, Tryd.ntmps18
    go_wp2_with (fail)
    refine (may_calls i _).mono ?_
    rintro e w' ⟨rfl, rfl⟩
    rw [hm]
    dsimp only
    go_wp2_with (fail)
    generalize (w.alloc (.cells (agC .u64 65 f) 27 (0, 0))).alloc (.cells Tryd.zeroCells27 27 (0, 0)) = w1 at BK1 BK2 HB ⊢
    have hc := blk_cell BK1.out q
    rw [agC_get _ _ _ _ hq1] at hc
    have hfz := blk_frozen BK1.out q
    go_region
    have BK3 := blk_drew (blk_set BK1.out q (Value.int IntKind.u64 (bits BinOp.or IntKind.u64 (f q) (IntKind.u64.wrap (2 ^ r)))))
    have BK4 := blk_drew (blk_far BK2.out (p := ⟨w.heap.size, q, none⟩) (by show w.heap.size + 1 ≠ w.heap.size; omega) (Value.int IntKind.u64 (bits BinOp.or IntKind.u64 (f q) (IntKind.u64.wrap (2 ^ r)))))
    have HB2 := below_drew (below_set (j := q) (v := Value.int IntKind.u64 (bits BinOp.or IntKind.u64 (f q) (IntKind.u64.wrap (2 ^ r)))) HB.out (Nat.le_refl _))
    rw [agC_set, hf2.out] at BK3
    generalize (w1.setCell ⟨w.heap.size, q, none⟩ (Value.int IntKind.u64 (bits BinOp.or IntKind.u64 (f q) (IntKind.u64.wrap (2 ^ r))))).drew = w2 at BK3 BK4 HB2 ⊢
    clear BK1 BK2 HB hc hfz
    have BK3 := Aside0.mk BK3
    have BK4 := Aside0.mk BK4
    have HB2 := Aside0.mk HB2
    go_wp2_with (first | ((with_reducible refine gate_dst (N := 18) rfl ?_); refine row_load rfl 27 (.tmp 2) rfl w.heap.size rfl .u64 65 f2 27 _ BK3.out Tryd.underlying27 rfl info_map ?_) | ((with_reducible refine gate_store (t := 27) (p := 4) rfl ?_); refine row_store rfl 27 (.tmp 4) (.tmp 18) rfl rfl (w.heap.size + 1) rfl .u64 65 f2 rfl _ 27 BK4.out info_map (by rw [zero_map, agC_size]) ?_; intro w3 BK5 BK6 HB3))
    refine bodyPost_ret (v := .agg (agC .u64 65 f2)) (results_cell_row (p := 4) (ty := 27) Tryd.results18 _ _ (w.heap.size + 1) 27 _ (0, 0) _ rfl BK5 Tryd.underlying27 rfl (by rw [info_map, agC_size])) rfl ⟨rfl, HB3 _ _ HB2.out (by omega)⟩
  · have hm : decide (0 ≤ i ∧ i ≤ 4096) = false := decide_eq_false h
    have hv : withF f i = f := by unfold withF; rw [if_neg h]
    rw [hv]
    clear hv h
    go_enter Tryd.func18, Tryd.ntmps18
    go_wp2_with (fail)
    refine (may_calls i _).mono ?_
    rintro e w' ⟨rfl, rfl⟩
    rw [hm]
    dsimp only
    generalize (w.alloc (.cells (agC .u64 65 f) 27 (0, 0))).alloc (.cells Tryd.zeroCells27 27 (0, 0)) = w2 at BK1 BK2 HB ⊢
    have BK3 := BK1
    have BK4 := BK2
    have HB2 := HB
    clear BK1 BK2 HB
    go_wp2_with (first | ((with_reducible refine gate_dst (N := 18) rfl ?_); refine row_load rfl 27 (.tmp 2) rfl w.heap.size rfl .u64 65 f 27 _ BK3.out Tryd.underlying27 rfl info_map ?_) | ((with_reducible refine gate_store (t := 27) (p := 4) rfl ?_); refine row_store rfl 27 (.tmp 4) (.tmp 18) rfl rfl (w.heap.size + 1) rfl .u64 65 f rfl _ 27 BK4.out info_map (by rw [zero_map, agC_size]) ?_; intro w3 BK5 BK6 HB3))
    refine bodyPost_ret (v := .agg (agC .u64 65 f)) (results_cell_row (p := 4) (ty := 27) Tryd.results18 _ _ (w.heap.size + 1) 27 _ (0, 0) _ rfl BK5 Tryd.underlying27 rfl (by rw [info_map, agC_size])) rfl ⟨rfl, HB3 _ _ HB2.out (by omega)⟩
def zeroF : Nat → Int := fun _ => 0
theorem foldl_snoc {α β : Type} (f : β → α → β) (b : β) (l : List α) (k : Nat) (h : k < l.length) : (l.take (k + 1)).foldl f b = f ((l.take k).foldl f b) l[k] := by
  rw [List.take_succ_eq_append_getElem h, List.foldl_append]; rfl
set_option maxHeartbeats 4000000 in
set_option maxRecDepth 100000 in
theorem of_calls (A0 : Option Addr) (c0 : Nat) (l0 : List Int) (w : World) (hr0 : Kd.C (Kd.int .i64) w A0 l0.length l0) (_hc0 : l0.length ≤ c0) :
    Calls Tryd.prog 10 #[.slice A0 l0.length c0] w fun e w' => e = .returned (.agg (agC .u64 65 (l0.foldl withF zeroF))) ∧ Below w.heap.size w w' := by
  have hb0 : l0.length ≤ 9223372036854775807 := by have := hr0.2.1; unfold maxLen at this; omega
  have BK1 := blk_alloc (blk_new w (.cells Tryd.zeroCells27 27 (0, 0))) (.cells Tryd.zeroCells27 27 (0, 0))
  have BK2 := blk_new (w.alloc (.cells Tryd.zeroCells27 27 (0, 0))) (.cells Tryd.zeroCells27 27 (0, 0))
  have HB := below_alloc (below_alloc (Below.refl w.heap.size w) (.cells Tryd.zeroCells27 27 (0, 0))) (.cells Tryd.zeroCells27 27 (0, 0))
  rw [alloc_size] at BK2
  have BK1 := Aside0.mk BK1
  have BK2 := Aside0.mk BK2
  have HB := Aside0.mk HB
  have HR := Aside0.mk hr0
  clear hr0 _hc0
  have hfin : l0.foldl withF zeroF = (l0.take l0.length).foldl withF zeroF := by rw [List.take_length]
  rw [hfin]
  clear hfin
  obtain ⟨f9, hf9⟩ : ∃ f9, (l0.take l0.length).foldl withF zeroF = f9 := ⟨_, rfl⟩
  rw [hf9]
  have hf9 := Aside0.mk hf9
  go_enter Tryd.func10, Tryd.ntmps10
  go_wp2_with (fail)
  generalize (w.alloc (.cells Tryd.zeroCells27 27 (0, 0))).alloc (.cells Tryd.zeroCells27 27 (0, 0)) = w1 at BK1 BK2 HB ⊢
  go_loopg [5, 8] l0.length (fun gg _ s8 wr => ∃ kk : Nat, kk ≤ l0.length ∧ l0.length - kk ≤ gg ∧ s8 = .int .i64 kk ∧ Aside0 (Below w.heap.size w wr) ∧ Aside0 (wr.heap[w.heap.size]? = some (.cells Tryd.zeroCells27 27 (0, 0))) ∧ Aside0 (wr.heap[w.heap.size + 1]? = some (.cells (agC .u64 65 ((l0.take kk).foldl withF zeroF)) 27 (0, 0))))
  case atStart => exact ⟨0, Nat.zero_le _, by omega, rfl, HB, BK1, ⟨by rw [BK2.out, zero_map]; rfl⟩⟩
  case round =>
    clear BK1 BK2 HB
    obtain ⟨kk, hkk, hg, rfl, HB, BK1, BK2⟩ := hrel
    by_cases hlt : kk < l0.length
    · have hltz : (kk : Int) < (l0.length : Int) := by omega
      obtain ⟨ad, e1, hx⟩ := Kd.at_int (Kd.C_below HR.out HB.out) (kk : Int) (by omega) hltz
      cases e1
      simp only [Int.toNat_natCast] at hx
      have hcall := with_calls ((l0.take kk).foldl withF zeroF) (rd l0 kk) wr
      have hnx : (l0.take (kk + 1)).foldl withF zeroF = withF ((l0.take kk).foldl withF zeroF) (rd l0 kk) := by
        rw [foldl_snoc _ _ _ _ hlt]
        congr 1
        unfold rd
        simp [List.getD_eq_getElem?_getD, List.getElem?_eq_getElem hlt]
      generalize (l0.take kk).foldl withF zeroF = f at BK2 hcall hnx
      have hnx := Aside0.mk hnx
      have hcall := Aside0.mk hcall
      go_wp2_with (first | ((with_reducible refine gate_dst (N := 12) rfl ?_); refine row_load rfl 27 (.tmp 3) rfl (w.heap.size + 1) rfl .u64 65 f 27 _ BK2.out Tryd.underlying27 rfl info_map ?_))
      refine hcall.out.mono ?_
      rintro e w2 ⟨rfl, hb⟩
      dsimp only
      have BK3 := Aside0.mk (blk_below BK1.out hb)
      have BK4 := Aside0.mk (blk_below BK2.out hb)
      have HB2 := Aside0.mk (below_step HB.out hb)
      clear BK1 BK2 HB hcall hb hx HR
      go_wp2_with (first | ((with_reducible refine gate_store (t := 27) (p := 3) rfl ?_); refine row_store rfl 27 (.tmp 3) (.tmp 14) rfl rfl (w.heap.size + 1) rfl .u64 65 (withF f (rd l0 kk)) rfl _ 27 BK4.out info_map (agC_size _ _ _) ?_; intro w3 BK5 BK6 HB3; have BK5 := Aside0.mk BK5; have BK6 := Aside0.mk BK6; have HB3 := Aside0.mk HB3))
      go_roundg (l0.length - (kk + 1))
      case measure => omega
      case rel => exact ⟨kk + 1, by omega, by omega, by go_num, ⟨HB3.out _ _ HB2.out (by omega)⟩, ⟨(BK6.out _ (by omega)).trans BK3.out⟩, ⟨by rw [BK5.out, hnx.out]⟩⟩
    · have hltz : ¬ (kk : Int) < (l0.length : Int) := by omega
      obtain rfl : kk = l0.length := by omega
      clear hg hkk HR hlt
      have BK3 := Aside0.mk (show wr.heap[w.heap.size + 1]? = some (.cells (agC .u64 65 f9) 27 (0, 0)) by rw [← hf9.out]; exact BK2.out)
      clear BK2
      go_wp2_with (first | ((with_reducible refine gate_dst (N := 16) rfl ?_); refine row_load rfl 27 (.tmp 3) rfl (w.heap.size + 1) rfl .u64 65 f9 27 _ BK3.out Tryd.underlying27 rfl info_map ?_) | ((with_reducible refine gate_store (t := 27) (p := 2) rfl ?_); refine row_store rfl 27 (.tmp 2) (.tmp 16) rfl rfl w.heap.size rfl .u64 65 f9 rfl _ 27 BK1.out info_map (by rw [zero_map, agC_size]) ?_; intro w3 BK5 BK6 HB3))
      refine bodyPost_ret (v := .agg (agC .u64 65 f9)) (results_cell_row (p := 2) (ty := 27) Tryd.results10 _ _ w.heap.size 27 _ (0, 0) _ rfl BK5 Tryd.underlying27 rfl (by rw [info_map, agC_size])) rfl ⟨rfl, HB3 _ _ HB.out (Nat.le_refl _)⟩
end Go.Proofs.YtcnlmpjoghogbaaDoor.Ag
namespace Go.Proofs.YtcnlmpjoghogbaaDoor.Ag
open Go.RowKit Go.Proofs.YtcnlmpjoghogbaaDoor.Xw Go.Proofs.YtcnlmpjoghogbaaDoorW.PrintWords Go.Proofs.YtcnlmpjoghogbaaDoorW.PrintLast Go.Proofs.YtcnlmpjoghogbaaDoorW.PrintMore
/-- The block g holds the map f. -/
def Holds (g : Nat) (f : Nat → Int) (w : World) : Prop := w.heap[g]? = some (.cells (agC .u64 65 f) 27 (0, 0))
theorem Holds.load {g : Nat} {f : Nat → Int} {w : World} (h : Holds g f w) : (loadVar 27 ⟨g, 0, none⟩).run Tryd.prog w = .ok (.agg (agC .u64 65 f)) w := by
  refine run_loadVar_mid w g 0 27 (agC .u64 65 f).toList _ ?_ Tryd.underlying27 rfl (by rw [info_map]; simp [agC])
  intro j v hv
  rw [Nat.zero_add]
  have := blk_cell h j
  rw [Array.getElem?_toList] at hv
  rw [this]; exact hv
def ldMap (v : Value) : Sem Value := Instr.loadAt 27 v
theorem ldMap_eq (v : Value) : Instr.loadAt 27 v = ldMap v := rfl
theorem Holds.ld {g : Nat} {f : Nat → Int} {w : World} (h : Holds g f w) : (ldMap (.pointer (some ⟨g, 0, none⟩))).run Tryd.prog w = .ok (.agg (agC .u64 65 f)) w := by
  simp only [ldMap, Instr.loadAt, Instr.sureAddr, Sem.run_bind, Sem.run_pure, Result.andThen_ok, h.load]
theorem Holds.below {g : Nat} {f : Nat → Int} {w w' : World} (h : Holds g f w) (hb : Below w.heap.size w w') : Holds g f w' := blk_below h hb
theorem Holds.drew {g : Nat} {f : Nat → Int} {w : World} (h : Holds g f w) : Holds g f w.drew := blk_drew h
theorem ldMap_run {g : Nat} {f : Nat → Int} {w : World} (h : w.heap[g]? = some (.cells (agC .u64 65 f) 27 (0, 0))) : (ldMap (.pointer (some ⟨g, 0, none⟩))).run Tryd.prog w = .ok (.agg (agC .u64 65 f)) w := Holds.ld h
theorem row_put {w : World} {g : Nat} {old cells : Array Value} {t : TypeId} (h : w.heap[g]? = some (.cells old t (0, 0))) : (w.setRow g cells).heap[g]? = some (.cells cells t (0, 0)) := setRow_heap w g old cells t (0, 0) h
theorem row_far {w : World} {g h : Nat} {o : Obj} (hb : w.heap[h]? = some o) (hne : h ≠ g) (cells : Array Value) : (w.setRow g cells).heap[h]? = some o := (setRow_other w g h cells hne).trans hb
theorem row_below {B : Nat} {w0 w : World} (hb : Below B w0 w) {g : Nat} (hg : B ≤ g) {cells : Array Value} : Below B w0 (w.setRow g cells) := below_setRow hb hg _
section
variable {P : Program} {ops : Array Oper} {rest : List Oper} {o : Oper} {a : Act} {Q : Exit → Act → World → Prop} {W : World}
theorem ag_gate_st {t : TypeId} {x y : Operand} (_ho : o.op = .store t x y) (h : wpList P ops Q (o :: rest) a W) : wpList P ops Q (o :: rest) a W := h
/-- a whole variable, written: the world is told in full -/
theorem row_store2 (hgd : o.guard = none) (ty : TypeId) (x y : Operand) (ho : o.op = .store ty x y) (hN : o.dst = none) (g : Nat) (hx : a.eval x = .pointer (some ⟨g, 0, none⟩)) (k : IntKind) (n : Nat) (f : Nat → Int) (hy : a.eval y = .agg (agC k n f))
    (old : Array Value) (t : TypeId) (hg : W.heap[g]? = some (.cells old t (0, 0))) (hi : (P.info? ty).map (·.size) = some n) (ho' : old.size = n)
    (h : wpList P ops Q rest a (W.setRow g (agC k n f))) : wpList P ops Q (o :: rest) a W := by
  refine wpList_plain hgd fun K hK => ?_
  unfold Oper.wp execOp
  simp only [ho, hx, hy, Instr.storeAt, Instr.sureAddr, Sem.run_bind, Sem.run_pure, Result.andThen_ok, run_storeVar_row W g t ty old (agC k n f) hg (by rw [hi, agC_size]) (by rw [ho', agC_size]) (agC_one k n f)]
  have e : a.put o.dst undef = a := by rw [hN]; rfl
  show K (a.put o.dst undef) (W.setRow g (agC k n f))
  rw [e]
  exact hK _ _ h
end
end Go.Proofs.YtcnlmpjoghogbaaDoor.Ag
namespace Go.Proofs.YtcnlmpjoghogbaaDoor.Ag
open Go.RowKit Go.Proofs.YtcnlmpjoghogbaaDoor.Xw Go.Proofs.YtcnlmpjoghogbaaDoorW.PrintWords Go.Proofs.YtcnlmpjoghogbaaDoorW.PrintLast Go.Proofs.YtcnlmpjoghogbaaDoorW.PrintMore
set_option maxHeartbeats 4000000 in
set_option maxRecDepth 100000 in
theorem clip_calls (A : Option Addr) (n c : Nat) (hn : n ≤ c) (hA : A = none → n = 0) (w : World) : Calls Tryd.prog 62 #[.slice A n c] w fun e w' => e = .returned (.slice A n n) ∧ w' = w := by
  cases A with
  | none =>
    obtain rfl := hA rfl
    go_enter Tryd.func62, Tryd.ntmps62
    go_wp2_with (fail)
    go_ret
    exact ⟨rfl, rfl⟩
  | some ad =>
    clear hA
    go_enter Tryd.func62, Tryd.ntmps62
    go_wp2_with (fail)
    go_ret
    exact ⟨rfl, rfl⟩
end Go.Proofs.YtcnlmpjoghogbaaDoor.Ag
namespace Go.Proofs.YtcnlmpjoghogbaaDoor.PAll
open Go.Proofs.YtcnlmpjoghogbaaDoor.Ag (row_load row_store ag_gate ag_gate_st row_store2)
open Go.RowKit Go.Proofs.YtcnlmpjoghogbaaDoor.Xw Go.Proofs.YtcnlmpjoghogbaaDoorW.PrintWords Go.Proofs.YtcnlmpjoghogbaaDoorW.PrintLast Go.Proofs.YtcnlmpjoghogbaaDoorW.PrintMore
attribute [local go_sem] max2_int min2_int max_two min_two max_three min_three max_four min_four   -- for this text's walks alone
attribute [local go_sem ↓] Ag.ldMap_eq
set_option linter.unusedVariables false
set_option linter.unusedSimpArgs false
def bitmap_may.f (a0 : Int) : Option (Bool) := if a0 ≥ 0 then (some (decide (a0 ≤ 4096))) else (some false)
def bitmap_Map_With.f (a0_0 : Nat → Int) (a1 : Int) : Option (Nat → Int) := some (Ag.withF a0_0 a1)
def bitmap_Of.f (l0 : List Int) : Option (Nat → Int) := some (l0.foldl Ag.withF Ag.zeroF)
theorem bitmap_Of.calls (A0 : Option Addr) (c0 : Nat) (l0 : List Int) (r : Nat → Int) (w : World) (hr0 : Kd.C (Kd.int .i64) w A0 l0.length l0) (hc0 : l0.length ≤ c0) (h : bitmap_Of.f l0 = some r) :
    Calls Tryd.prog 10 #[.slice A0 l0.length c0] w fun e w' => e = .returned (.agg (Ag.agC .u64 65 r)) ∧ Below w.heap.size w w' := by
  obtain rfl := Option.some.inj h
  exact Ag.of_calls A0 c0 l0 w hr0 hc0
def bitmap_Map_Has.f (a0_0 : Nat → Int) (a1 : Int) : Option Bool := some (Ag.hasF a0_0 a1)
theorem bitmap_Map_Has.calls (a0_0 : Nat → Int) (a1 : Int) (r : Bool) (w : World) (h : bitmap_Map_Has.f a0_0 a1 = some r) :
    Calls Tryd.prog 17 #[.agg (Ag.agC .u64 65 a0_0), .int .i64 a1] w fun e w' => e = .returned (.bool r) ∧ Below w.heap.size w w' := by
  obtain rfl := Option.some.inj h
  exact Ag.has_calls a0_0 a1 w
def api_Run_62.f (l0 : List (S50)) : Option ((List (S50))) := if 0 ≤ (l0.length : Int) then (if (l0.length : Int) ≤ (l0.length : Int) then (some (l0.take ((l0.length : Int) : Int).toNat)) else (none)) else (none)
set_option maxHeartbeats 8000000 in
set_option maxRecDepth 100000 in
theorem api_Run_62.calls (P0_ : Nat → Prop) (A0 : Option Addr) (c0 : Nat) (l0 : List (S50)) (r : List (S50)) (w : World) (hs0 : Kd.V k50 50 w w.heap.size (fun k_ => P0_ k_) (.slice A0 l0.length c0) l0) (h : api_Run_62.f l0 = some r) :
    Calls Tryd.prog 62 #[.slice A0 l0.length c0] w fun e w' => ∃ v0_ : Value, e = .returned (v0_) ∧ Kd.V k50 50 w' w.heap.size (fun k_ => (P0_ k_ ∨ w.heap.size ≤ k_)) v0_ r ∧ Below w.heap.size w w' := by
  have hr : r = l0 := by
    unfold api_Run_62.f at h
    rw [if_pos (by omega), if_pos (Int.le_refl _)] at h
    have := Option.some.inj h
    rw [← this, Int.toNat_natCast, List.take_length]
  subst hr
  have hV := Kd.V_mono (ok' := fun k_ => (P0_ k_ ∨ w.heap.size ≤ k_)) hs0 (fun k_ hk => .inl hk)
  have hF := (Kd.V_at hV).2.2
  refine (Ag.clip_calls A0 r.length c0 (Kd.V_at hV).2.1 ?_ w).mono ?_
  · rintro rfl
    rcases Nat.eq_zero_or_pos r.length with h0 | h0
    · exact h0
    · obtain ⟨ad, _, e, _⟩ := Kd.C_get (Kd.V_reads' hV).2.2 z50 0 (by omega) (by omega)
      cases e
  · rintro e w' ⟨rfl, rfl⟩
    exact ⟨_, rfl, Kd.V_mk (Nat.le_refl _) hF, Below.refl _ _⟩
def bitmap_Runs.l0 : Nat → Int → List (S50) → Int → (Nat → Int) → Option ((List (S50)))
  | 0, _, _, _, _ => none
  | k + 1, x2, x7, x8, x107000 => if x8 < x2 then ((bitmap_Map_Has.f x107000 x8).bind fun t107 => (if (x7.length : Int) > 0 then (if 0 ≤ (wrap64 ((x7.length : Int) - 1)) then (if (wrap64 ((x7.length : Int) - 1)) < (x7.length : Int) then (if (((rd_T50 x7 (wrap64 ((x7.length : Int) - 1))).f2) == t107) = true then (bitmap_Runs.l0 k x2 (x7.set ((wrap64 ((x7.length : Int) - 1)) : Int).toNat (⟨(rd_T50 x7 (wrap64 ((x7.length : Int) - 1))).f0, wrap64 (((rd_T50 x7 (wrap64 ((x7.length : Int) - 1))).f1) + 1), (rd_T50 x7 (wrap64 ((x7.length : Int) - 1))).f2⟩ : S50)) (wrap64 (x8 + 1)) x107000) else (if x7.length < 5864062014805 then (bitmap_Runs.l0 k x2 (x7 ++ [(⟨x8, wrap64 (x8 + 1), t107⟩ : S50)]) (wrap64 (x8 + 1)) x107000) else (none))) else (none)) else (none)) else (if x7.length < 5864062014805 then (bitmap_Runs.l0 k x2 (x7 ++ [(⟨x8, wrap64 (x8 + 1), t107⟩ : S50)]) (wrap64 (x8 + 1)) x107000) else (none)))) else ((api_Run_62.f x7).bind fun t117 => (some t117))
def bitmap_Runs.f (k : Nat) (a0_0 : (Nat → Int)) (a1 : Int) (a2 : Int) : Option ((List (S50))) := bitmap_Runs.l0 k (mn a2 4097) ([] : List (S50)) (mx a1 0) a0_0
theorem bitmap_Runs.mono_l : ∀ k, (∀ y0 y1 y2 y3, LeO (bitmap_Runs.l0 k y0 y1 y2 y3) (bitmap_Runs.l0 (k + 1) y0 y1 y2 y3))
  | 0 => fun _ _ _ _ r h => by simp [bitmap_Runs.l0] at h
  | k + 1 => by
    have ih0 := bitmap_Runs.mono_l k
    · intro y0 y1 y2 y3
      unfold bitmap_Runs.l0
      repeat' first
      | (with_reducible exact ih0 _ _ _ _)
      | (with_reducible exact LeO.refl _)
      | (with_reducible exact LeO.none _)
      | (with_reducible refine LeO.ite ?_ ?_)
      | (with_reducible refine LeO.bind ?_ (fun _ => ?_))
      | exact ih0 _ _ _ _
      | exact LeO.none _
      | refine LeO.ite ?_ ?_
      | refine LeO.bind ?_ (fun _ => ?_)
theorem bitmap_Runs.mono : ∀ a0 a1 a2 k, LeO (bitmap_Runs.f k a0 a1 a2) (bitmap_Runs.f (k + 1) a0 a1 a2) := by
  intro a0 a1 a2 k
  have ih0 := bitmap_Runs.mono_l k
  unfold bitmap_Runs.f
  repeat' first
      | (with_reducible exact ih0 _ _ _ _)
      | (with_reducible exact LeO.refl _)
      | (with_reducible exact LeO.none _)
      | (with_reducible refine LeO.ite ?_ ?_)
      | (with_reducible refine LeO.bind ?_ (fun _ => ?_))
      | exact ih0 _ _ _ _
      | exact LeO.none _
      | refine LeO.ite ?_ ?_
      | refine LeO.bind ?_ (fun _ => ?_)
set_option maxHeartbeats 8000000 in
set_option maxRecDepth 100000 in
theorem bitmap_Runs.calls (k : Nat) (a0_0 : (Nat → Int)) (a1 : Int) (a2 : Int) (r : List (S50)) (w : World) (h : bitmap_Runs.f k a0_0 a1 a2 = some r) :
    Calls Tryd.prog 42 #[.agg (Ag.agC .u64 65 a0_0), .int .i64 a1, .int .i64 a2] w fun e w' => ∃ v0_ : Value, e = .returned (v0_) ∧ Kd.V k50 50 w' w.heap.size (fun k_ => (w.heap.size ≤ k_)) v0_ r ∧ Below w.heap.size w w' := by
  have hu27 := Tryd.underlying27
  have hu50 := Tryd.underlying50
  have HB := Aside0.mk (Below.refl w.heap.size w)
  have H : (bitmap_Runs.l0 k (mn a2 4097) ([] : List (S50)) (mx a1 0) a0_0) = some r := h
  clear h
  obtain ⟨ji4, hji4⟩ : ∃ j_ : Int, (mx a1 0) = j_ := ⟨_, rfl⟩
  replace H : (bitmap_Runs.l0 k (mn a2 4097) ([] : List (S50)) ji4 a0_0) = some r := by first | (rw [hji4] at H; exact H) | (simp only [hji4] at H ⊢; exact H)
  (try (have hji4l : 0 ≤ ji4 := by (rw [← hji4]; unfold mx; (repeat' split) <;> omega)))
  (try (have hji4m : 0 ≤ ji4 := by omega))
  have hji4_ : (if a1 < 0 then 0 else a1) = ji4 := hji4
  obtain ⟨ji5, hji5⟩ : ∃ j_ : Int, (mn a2 4097) = j_ := ⟨_, rfl⟩
  replace H : (bitmap_Runs.l0 k ji5 ([] : List (S50)) ji4 a0_0) = some r := by first | (rw [hji5] at H; exact H) | (simp only [hji5] at H ⊢; exact H)
  (try (have hji5h : ji5 ≤ 4097 := by (rw [← hji5]; unfold mn; (repeat' split) <;> omega)))
  (try (have hji5g : ji5 ≤ 64 := by omega))
  have hji5_ : (if 4097 < a2 then 4097 else a2) = ji5 := hji5
  have H' := Aside0.mk H
  clear H
  go_enter Tryd.func42, Tryd.ntmps42
  go_wp2_with (first | ((with_reducible refine ag_gate (t := 27) rfl ?_); first | refine row_load rfl 27 _ rfl _ rfl .u64 65 _ 27 _ BK106.out Tryd.underlying27 rfl Ag.info_map ?_ | refine row_load rfl 27 _ rfl _ rfl .u64 65 _ 27 _ (by first | exact BK106.out | (repeat (first | exact BK106.out | refine blk_far ?_ (by assumption) _ | refine Ag.row_far ?_ (by assumption) _))) Tryd.underlying27 rfl Ag.info_map ?_) | ((with_reducible refine ag_gate_st (t := 27) rfl ?_); first | refine row_store2 rfl 27 _ _ rfl rfl _ rfl .u64 65 _ rfl _ 27 BK106.out Ag.info_map (Ag.agC_size _ _ _) ?_ | refine row_store2 rfl 27 _ _ rfl rfl _ rfl .u64 65 _ rfl _ 27 (by first | exact BK106.out | (repeat (first | exact BK106.out | refine blk_far ?_ (by assumption) _ | refine Ag.row_far ?_ (by assumption) _))) Ag.info_map (Ag.agC_size _ _ _) ?_) | ((with_reducible refine gate_dst (N := 3) rfl ?_); refine box_event ?hg (N := 3) ?hd (cs := (Ag.agC .u64 65 a0_0)) (t := 27) ?hr ?_; (case hd => rfl); (case hg => rfl); (case hr => first | (go_simp; done) | (go_simp; rfl)); intro gb106 hg w6 hbox hb; have n0_ := Aside0.mk (below_step (by repeat (first | (with_reducible first | exact HB.out | apply below_alloc | apply pw_below_drewN | apply below_drew1) | exact HB.out)) hb); have n1_ := Aside0.mk (hbox); have n2_ := Aside0.mk ((by rw [hg]; exact (below_size (by repeat (first | (with_reducible first | exact HB.out | apply below_alloc | apply pw_below_drewN | apply below_drew1) | exact HB.out))) : w.heap.size ≤ gb106)); have n3_ := Aside0.mk ((by rw [hg]; exact (below_size (by repeat (first | (with_reducible first | exact HB.out | apply below_alloc | apply pw_below_drewN | apply below_drew1) | exact HB.out))) : w.heap.size ≤ gb106)); clear HB; have HB := n0_; have BK106 := n1_; have GW106 := n2_; have GE106 := n3_; clear n0_ n1_ n2_ n3_; clear hb hbox hg))
  go_loopg [7, 8] k (fun kq v7 v8 w' => ∃ (x7_1 : List (S50)) (x8_1 : Int), v8 = .int .i64 x8_1 ∧ Aside0 (bitmap_Runs.l0 kq ji5 x7_1 x8_1 a0_0 = some r) ∧ Aside0 (kq ≤ k) ∧ Aside0 (Kd.R k50 50 w' w.heap.size (fun k_ => (w.heap.size ≤ k_)) v7 x7_1) ∧ Aside0 (w'.heap[gb106]? = some (.cells (Ag.agC .u64 65 a0_0) 27 (0, 0))) ∧ Aside0 (Below w.heap.size w w'))
  case atStart => exact ⟨(([] : List (S50))), (ji4), (by first | rfl | (simp; done) | (simp only [← hji4] <;> (first | rfl | simp)) | (simp [*]; done)), H', ⟨Nat.le_refl _⟩, ⟨by first | exact Kd.R_nil _ _ _ _ _ | exact Kd.N_nil _ _ _ _ _ | exact Kd.V_nil _ _ _ _ _ | exact Kd.Q_nil _ _ _ _ _ | exact Kd.S_nil _ _ _ _ _⟩, ⟨by (with_reducible repeat (first | refine blk_drewN ?_ _ | refine blk_drew ?_ | refine blk_alloc ?_ _)); exact BK106.out⟩, ⟨by repeat (first | (with_reducible first | exact HB.out | apply below_alloc | apply pw_below_drewN | apply below_drew1 | refine below_set ?_ GE106.out | refine Ag.row_below ?_ GE106.out) | exact HB.out)⟩⟩
  case round =>
    clear H'
    try clear p2
    try clear c4
    obtain ⟨x7_1, x8_1, rfl, HA, HK1, HO_7, BK106, HB⟩ := hrel
    cases gk with
    | zero => exact absurd HA.out (by simp [bitmap_Runs.l0])
    | succ k1 =>
      have H := HA.out
      clear HA
      simp only [bitmap_Runs.l0] at H
      by_cases c7 : x8_1 < ji5
      · rw [if_pos c7] at H
        have c7b0 : decide (x8_1 < ji5) = true := decide_eq_true c7
        clear c7
        replace H := Option.bind_eq_some_iff.mp H
        obtain ⟨t107, A80, H⟩ := H
        replace H : (if (x7_1.length : Int) > 0 then (if 0 ≤ (wrap64 ((x7_1.length : Int) - 1)) then (if (wrap64 ((x7_1.length : Int) - 1)) < (x7_1.length : Int) then (if (((rd_T50 x7_1 (wrap64 ((x7_1.length : Int) - 1))).f2) == t107) = true then (bitmap_Runs.l0 k1 ji5 (x7_1.set ((wrap64 ((x7_1.length : Int) - 1)) : Int).toNat (⟨(rd_T50 x7_1 (wrap64 ((x7_1.length : Int) - 1))).f0, wrap64 (((rd_T50 x7_1 (wrap64 ((x7_1.length : Int) - 1))).f1) + 1), (rd_T50 x7_1 (wrap64 ((x7_1.length : Int) - 1))).f2⟩ : S50)) (wrap64 (x8_1 + 1)) a0_0) else (if x7_1.length < 5864062014805 then (bitmap_Runs.l0 k1 ji5 (x7_1 ++ [(⟨x8_1, wrap64 (x8_1 + 1), t107⟩ : S50)]) (wrap64 (x8_1 + 1)) a0_0) else (none))) else (none)) else (none)) else (if x7_1.length < 5864062014805 then (bitmap_Runs.l0 k1 ji5 (x7_1 ++ [(⟨x8_1, wrap64 (x8_1 + 1), t107⟩ : S50)]) (wrap64 (x8_1 + 1)) a0_0) else (none))) = some r := H
        have A8 := Aside0.mk A80
        clear A80
        by_cases c9 : (x7_1.length : Int) > 0
        · rw [if_pos c9] at H
          have c9b0 : decide (0 < (x7_1.length : Int)) = true := decide_eq_true c9
          have c9b1 : decide (0 < x7_1.length) = true := decide_eq_true (by omega)
          clear c9
          obtain ⟨ji10, hji10⟩ : ∃ j_ : Int, (wrap64 ((x7_1.length : Int) - 1)) = j_ := ⟨_, rfl⟩
          replace H : (if 0 ≤ (ji10) then (if (ji10) < (x7_1.length : Int) then (if (((rd_T50 x7_1 (ji10)).f2) == t107) = true then (bitmap_Runs.l0 k1 ji5 (x7_1.set ((ji10) : Int).toNat (⟨(rd_T50 x7_1 (ji10)).f0, wrap64 (((rd_T50 x7_1 (ji10)).f1) + 1), (rd_T50 x7_1 (ji10)).f2⟩ : S50)) (wrap64 (x8_1 + 1)) a0_0) else (if x7_1.length < 5864062014805 then (bitmap_Runs.l0 k1 ji5 (x7_1 ++ [(⟨x8_1, wrap64 (x8_1 + 1), t107⟩ : S50)]) (wrap64 (x8_1 + 1)) a0_0) else (none))) else (none)) else (none)) = some r := by first | (rw [hji10] at H; exact H) | (simp only [hji10] at H ⊢; exact H)
          (try rw [hji10] at A8)
          have hji10w : (IntKind.i64.wrap ((x7_1.length : Int) - 1)) = ji10 := (i64_w _).trans hji10
          by_cases c11 : 0 ≤ (ji10)
          · rw [if_pos c11] at H
            have c11b0 : decide (0 ≤ (ji10)) = true := decide_eq_true c11
            clear c11
            by_cases c12 : (ji10) < (x7_1.length : Int)
            · rw [if_pos c12] at H
              have c12b0 : decide ((ji10) < (x7_1.length : Int)) = true := decide_eq_true c12
              clear c12
              by_cases c13 : (((rd_T50 x7_1 (ji10)).f2) == t107) = true
              · rw [if_pos c13] at H
                have c13b0 : (((rd_T50 x7_1 (ji10)).f2) == t107) = true := c13
                (try (have c13b1 : decide (((rd_T50 x7_1 (ji10)).f2) = t107) = true := by simpa using c13))
                (try (have c13b2 : (((rd_T50 x7_1 (ji10)).f2) == t107) = true := by simpa using c13))
                clear c13
                obtain ⟨y110, hy110⟩ : ∃ y_ : List (S50), y_ = (x7_1.set ((ji10) : Int).toNat (⟨(rd_T50 x7_1 (ji10)).f0, wrap64 (((rd_T50 x7_1 (ji10)).f1) + 1), (rd_T50 x7_1 (ji10)).f2⟩ : S50)) := ⟨_, rfl⟩
                replace H : (bitmap_Runs.l0 k1 ji5 y110 (wrap64 (x8_1 + 1)) a0_0) = some r := by first | (rw [hy110]; with_reducible exact H) | (have H2_ := (Option.bind_some _ _).symm.trans H; rw [hy110]; with_reducible exact H2_) | (have H2_ := (Option.bind_some _ _).symm.trans H; with_reducible exact H2_) | with_reducible exact H | (rw [hy110]; exact H) | exact H
                have Ny110 := Aside0.mk hy110
                clear hy110
                have H' := Aside0.mk H
                clear H
                go_wp2_with (first | ((with_reducible refine ag_gate (t := 27) rfl ?_); first | refine row_load rfl 27 _ rfl _ rfl .u64 65 _ 27 _ BK106.out Tryd.underlying27 rfl Ag.info_map ?_ | refine row_load rfl 27 _ rfl _ rfl .u64 65 _ 27 _ (by first | exact BK106.out | (repeat (first | exact BK106.out | refine blk_far ?_ (by assumption) _ | refine Ag.row_far ?_ (by assumption) _))) Tryd.underlying27 rfl Ag.info_map ?_) | ((with_reducible refine ag_gate_st (t := 27) rfl ?_); first | refine row_store2 rfl 27 _ _ rfl rfl _ rfl .u64 65 _ rfl _ 27 BK106.out Ag.info_map (Ag.agC_size _ _ _) ?_ | refine row_store2 rfl 27 _ _ rfl rfl _ rfl .u64 65 _ rfl _ 27 (by first | exact BK106.out | (repeat (first | exact BK106.out | refine blk_far ?_ (by assumption) _ | refine Ag.row_far ?_ (by assumption) _))) Ag.info_map (Ag.agC_size _ _ _) ?_) | ((with_reducible refine gate_callee (f := 17) rfl ?_); refine goesL_ (some 23) rfl rfl Tryd.func17 (by kernel_rfl) rfl #[.agg (Ag.agC .u64 65 a0_0), .int .i64 x8_1] rfl (by (try simp only [List.map_toArray, List.map_cons, List.map_nil]); first | done | rfl | (simp only [List.length_drop, List.length_take]; rfl)) ?_; (with_reducible refine (bitmap_Map_Has.calls a0_0 x8_1 t107 _ A8.out).mono ?_); rintro e w16 ⟨rfl, hb⟩; refine ⟨_, rfl, ?_⟩; have n0_ := Aside0.mk (Kd.R_below (by (with_reducible repeat (first | apply Kd.R_alloc | apply Kd.R_drewN | apply Kd.R_drew)); exact HO_7.out) hb); have n1_ := Aside0.mk (blk_below (g := gb106) (o := .cells (Ag.agC .u64 65 a0_0) 27 (0, 0)) (by (with_reducible repeat (first | refine blk_drewN ?_ _ | refine blk_drew ?_ | refine blk_alloc ?_ _)); exact BK106.out) hb); have n2_ := Aside0.mk (below_step (by repeat (first | (with_reducible first | exact HB.out | apply below_alloc | apply pw_below_drewN | apply below_drew1 | refine below_set ?_ GE106.out | refine Ag.row_below ?_ GE106.out) | exact HB.out)) hb); clear HO_7; clear BK106; clear HB; have HO_7 := n0_; have BK106 := n1_; have HB := n2_; clear n0_ n1_ n2_; (try clear hb); (try clear hb2); (try clear hk); (try clear hi); obtain ⟨Ao17, co17, eo17⟩ := Kd.R_slice HO_7.out; subst eo17; have p108 : 0 ≤ ((ji10) : Int) := of_decide_eq_true (by first | (with_reducible assumption) | assumption); have q108 : (ji10) < (x7_1.length : Int) := of_decide_eq_true (by first | (with_reducible assumption) | assumption); obtain ⟨ad108, e108, hx108_0, hx108_1, hx108_2⟩ := at_T50 (Kd.R_reads' HO_7.out).2.2 (ji10) p108 q108; cases e108; replace p108 := eq_true p108; replace q108 := eq_true q108; have p109 : 0 ≤ ((ji10) : Int) := of_decide_eq_true (by first | (with_reducible assumption) | assumption); have q109 : (ji10) < (x7_1.length : Int) := of_decide_eq_true (by first | (with_reducible assumption) | assumption); obtain ⟨ad109, e109, hx109_0, hx109_1, hx109_2⟩ := at_T50 (Kd.R_reads' HO_7.out).2.2 (ji10) p109 q109; obtain rfl : ad108 = ad109 := (by injection e109); replace p109 := eq_true p109; replace q109 := eq_true q109; have p14 : 0 ≤ ((ji10) : Int) := of_decide_eq_true (by first | (with_reducible assumption) | assumption); have q14 : ((ji10) : Int) < ((x7_1.length : Int) : Int) := of_decide_eq_true (by first | (with_reducible assumption) | assumption); obtain ⟨go14, co14, eo14, gb14, gl14, cl14, HG14⟩ := Kd.R_form HO_7.out (by omega); (first | cases eo14 | (injection eo14 with ea_ en_ ec_; (first | subst ea_ | (injection ea_ with ea_; subst ea_)); subst ec_; clear en_)); have GB14 := Aside0.mk gb14; have GG14 := Aside0.mk HG14; clear gb14 gl14 HG14; (first | simp only [add_plain] at hx108_0 | skip); (first | simp only [add_plain] at hx108_1 | skip); (first | simp only [add_plain] at hx108_2 | skip); (first | simp only [add_plain] at hx109_0 | skip); (first | simp only [add_plain] at hx109_1 | skip); (first | simp only [add_plain] at hx109_2 | skip); obtain ⟨ce14, hcl14, hM14, hcc14, hfr14⟩ := Kd.R_elem HO_7.out z50 ((ji10) : Int) p14 q14; obtain rfl := k50_openM hM14; have hx14_0 : w16.cell? ⟨go14, ((ji10) : Int).toNat * 3, none⟩ = some (.int .i64 ((rd_T50 x7_1 (ji10)).f0)) := hcc14 0 _ rfl; have hx14_1 : w16.cell? ⟨go14, ((ji10) : Int).toNat * 3 + 1, none⟩ = some (.int .i64 ((rd_T50 x7_1 (ji10)).f1)) := hcc14 1 _ rfl; have hx14_2 : w16.cell? ⟨go14, ((ji10) : Int).toNat * 3 + 2, none⟩ = some (.bool ((rd_T50 x7_1 (ji10)).f2)) := hcc14 2 _ rfl; have hf14_0 : w16.frozen? ⟨go14, ((ji10) : Int).toNat * 3, none⟩ = false := hfr14 0; have hf14_1 : w16.frozen? ⟨go14, ((ji10) : Int).toNat * 3 + 1, none⟩ = false := hfr14 1; have hf14_2 : w16.frozen? ⟨go14, ((ji10) : Int).toNat * 3 + 2, none⟩ = false := hfr14 2; clear hcl14 hcc14 hfr14 hM14; replace p14 := eq_true p14; replace q14 := eq_true q14; have HX18 := Aside0.mk (show Kd.R k50 50 w16 w.heap.size (fun k_ => (w.heap.size ≤ k_)) (.slice (some ⟨go14, 0, none⟩) x7_1.length co17) x7_1 from (by (with_reducible repeat (first | apply Kd.R_alloc | apply Kd.R_drewN | apply Kd.R_drew)); exact HO_7.out)); obtain ⟨ce18, hcl18, hM18, hcc18, hfr18⟩ := Kd.R_elem HX18.out z50 ((ji10) : Int) (of_decide_eq_true (by first | (with_reducible assumption) | assumption)) (by have h_ : ((ji10) : Int) < ((x7_1.length : Int) : Int) := of_decide_eq_true (by first | (with_reducible assumption) | assumption); first | exact h_ | (have e_ := (Kd.R_reads' HO_7.out).1; omega) | simpa using h_); obtain rfl := k50_openM hM18; have HP18 := Kd.R_seg HX18.out ((ji10) : Int) (of_decide_eq_true (by first | (with_reducible assumption) | assumption)) (by have h_ : ((ji10) : Int) < ((x7_1.length : Int) : Int) := of_decide_eq_true (by first | (with_reducible assumption) | assumption); first | exact h_ | (have e_ := (Kd.R_reads' HO_7.out).1; omega) | simpa using h_) (seg := [.int .i64 (wrap64 (((rd_T50 x7_1 (ji10)).f1) + 1))]) (j := 1) hcl18 hcc18 (show 2 ≤ 3 from by decide) (x' := (⟨(rd_T50 x7_1 (ji10)).f0, wrap64 (((rd_T50 x7_1 (ji10)).f1) + 1), (rd_T50 x7_1 (ji10)).f2⟩ : S50)) (k50_mkM _ _ _ (⟨(rd_T50 x7_1 (ji10)).f0, wrap64 (((rd_T50 x7_1 (ji10)).f1) + 1), (rd_T50 x7_1 (ji10)).f2⟩ : S50) ) (fun _ hk => hk); have hx18_1 := hcc18 1 _ rfl; (try simp only [show (k50).sz = 3 from rfl, Nat.mul_one, Nat.add_zero] at hx18_1); have hf18_1 := hfr18 1; (try simp only [show (k50).sz = 3 from rfl, Nat.mul_one, Nat.add_zero] at hf18_1); clear hcl18 hcc18 hfr18 hM18) | ((with_reducible refine gate_store (t := 3) (p := 46) rfl ?_); refine store_event (t := 3) (p := 46) (v := ?vo_w19) (w1 := (w16.setCell ⟨go14, ((ji10) : Int).toNat * 3 + 1, none⟩ (.int .i64 (wrap64 (((rd_T50 x7_1 (ji10)).f1) + 1))))) ?hg ?ho ?hn ?hr ?_; (case ho => rfl); (case hg => rfl); (case hn => rfl); (case hr => first | (go_simp; done) | (go_simp; rfl)); intro w19 hw; have hg : w16.grownBy w19 (some go14) := (by rw [hw]; exact HP18.2); have hp_ : Kd.R k50 50 w19 w.heap.size (fun k_ => (w.heap.size ≤ k_)) (.slice (some ⟨go14, 0, none⟩) x7_1.length co17) y110 := (by rw [hw, Ny110.out]; exact HP18.1); clear HP18; have n0_ := Aside0.mk (hp_); have n1_ := Aside0.mk (blk_grown (g := gb106) (o := .cells (Ag.agC .u64 65 a0_0) 27 (0, 0)) (by (with_reducible repeat (first | refine blk_drewN ?_ _ | refine blk_drew ?_ | refine blk_alloc ?_ _)); exact BK106.out) hg (Kd.R_ne HO_7.out BK106.out (by decide))); have n2_ := Aside0.mk ((by rw [hw]; exact below_set (HB.out) GB14.out : Below w.heap.size w w19)); clear HO_7; clear BK106; clear HB; have HO_7 := n0_; have BK106 := n1_; have HB := n2_; clear n0_ n1_ n2_; clear hg hw hp_))
                go_roundg k1
                case measure => have := HK1.out; omega
                case rel => exact ⟨(y110), (wrap64 (x8_1 + 1)), (by first | rfl | (simp; done) | (simp [*]; done)), H', ⟨by have := HK1.out; omega⟩, ⟨by (with_reducible repeat (first | apply Kd.R_alloc | apply Kd.R_drewN | apply Kd.R_drew)); exact HO_7.out⟩, ⟨by (with_reducible repeat (first | refine blk_drewN ?_ _ | refine blk_drew ?_ | refine blk_alloc ?_ _)); exact BK106.out⟩, ⟨by repeat (first | (with_reducible first | exact HB.out | apply below_alloc | apply pw_below_drewN | apply below_drew1 | refine below_set ?_ GE106.out | refine Ag.row_below ?_ GE106.out) | exact HB.out)⟩⟩
              · rw [if_neg c13] at H
                have c13b0 : (((rd_T50 x7_1 (ji10)).f2) == t107) = false := by simpa using c13
                (try (have c13b1 : decide (((rd_T50 x7_1 (ji10)).f2) = t107) = false := by simpa using c13))
                (try (have c13b2 : (((rd_T50 x7_1 (ji10)).f2) == t107) = false := by simpa using c13))
                (try (have c13b3 : ¬ (((rd_T50 x7_1 (ji10)).f2) = t107) := by simpa using c13))
                clear c13
                by_cases c20 : x7_1.length < 5864062014805
                · rw [if_pos c20] at H
                  have LMc20 := Aside0.mk c20
                  clear c20
                  obtain ⟨y111, hy111⟩ : ∃ y_ : List (S50), y_ = (x7_1 ++ [(⟨x8_1, wrap64 (x8_1 + 1), t107⟩ : S50)]) := ⟨_, rfl⟩
                  replace H : (bitmap_Runs.l0 k1 ji5 y111 (wrap64 (x8_1 + 1)) a0_0) = some r := by first | (rw [hy111]; with_reducible exact H) | (have H2_ := (Option.bind_some _ _).symm.trans H; rw [hy111]; with_reducible exact H2_) | (have H2_ := (Option.bind_some _ _).symm.trans H; with_reducible exact H2_) | with_reducible exact H | (rw [hy111]; exact H) | exact H
                  have Ny111 := Aside0.mk hy111
                  clear hy111
                  have H' := Aside0.mk H
                  clear H
                  go_wp2_with (first | ((with_reducible refine ag_gate (t := 27) rfl ?_); first | refine row_load rfl 27 _ rfl _ rfl .u64 65 _ 27 _ BK106.out Tryd.underlying27 rfl Ag.info_map ?_ | refine row_load rfl 27 _ rfl _ rfl .u64 65 _ 27 _ (by first | exact BK106.out | (repeat (first | exact BK106.out | refine blk_far ?_ (by assumption) _ | refine Ag.row_far ?_ (by assumption) _))) Tryd.underlying27 rfl Ag.info_map ?_) | ((with_reducible refine ag_gate_st (t := 27) rfl ?_); first | refine row_store2 rfl 27 _ _ rfl rfl _ rfl .u64 65 _ rfl _ 27 BK106.out Ag.info_map (Ag.agC_size _ _ _) ?_ | refine row_store2 rfl 27 _ _ rfl rfl _ rfl .u64 65 _ rfl _ 27 (by first | exact BK106.out | (repeat (first | exact BK106.out | refine blk_far ?_ (by assumption) _ | refine Ag.row_far ?_ (by assumption) _))) Ag.info_map (Ag.agC_size _ _ _) ?_) | ((with_reducible refine gate_callee (f := 17) rfl ?_); refine goesL_ (some 23) rfl rfl Tryd.func17 (by kernel_rfl) rfl #[.agg (Ag.agC .u64 65 a0_0), .int .i64 x8_1] rfl (by (try simp only [List.map_toArray, List.map_cons, List.map_nil]); first | done | rfl | (simp only [List.length_drop, List.length_take]; rfl)) ?_; (with_reducible refine (bitmap_Map_Has.calls a0_0 x8_1 t107 _ A8.out).mono ?_); rintro e w22 ⟨rfl, hb⟩; refine ⟨_, rfl, ?_⟩; have n0_ := Aside0.mk (Kd.R_below (by (with_reducible repeat (first | apply Kd.R_alloc | apply Kd.R_drewN | apply Kd.R_drew)); exact HO_7.out) hb); have n1_ := Aside0.mk (blk_below (g := gb106) (o := .cells (Ag.agC .u64 65 a0_0) 27 (0, 0)) (by (with_reducible repeat (first | refine blk_drewN ?_ _ | refine blk_drew ?_ | refine blk_alloc ?_ _)); exact BK106.out) hb); have n2_ := Aside0.mk (below_step (by repeat (first | (with_reducible first | exact HB.out | apply below_alloc | apply pw_below_drewN | apply below_drew1 | refine below_set ?_ GE106.out | refine Ag.row_below ?_ GE106.out) | exact HB.out)) hb); clear HO_7; clear BK106; clear HB; have HO_7 := n0_; have BK106 := n1_; have HB := n2_; clear n0_ n1_ n2_; (try clear hb); (try clear hb2); (try clear hk); (try clear hi); obtain ⟨Ao23, co23, eo23⟩ := Kd.R_slice HO_7.out; subst eo23; have p108 : 0 ≤ ((ji10) : Int) := of_decide_eq_true (by first | (with_reducible assumption) | assumption); have q108 : (ji10) < (x7_1.length : Int) := of_decide_eq_true (by first | (with_reducible assumption) | assumption); obtain ⟨ad108, e108, hx108_0, hx108_1, hx108_2⟩ := at_T50 (Kd.R_reads' HO_7.out).2.2 (ji10) p108 q108; cases e108; replace p108 := eq_true p108; replace q108 := eq_true q108) | ((with_reducible refine gate_builtin (b := .append) (xs := #[.tmp 47, .tmp 53]) rfl ?_); at_builtin; refine Kd.R_append k50 (w0 := w) w.heap.size rfl (.tmp 47) (.tmp 53) 40 50 (.agg #[(.int .i64 0), (.int .i64 0), (.bool false)]) 24 rfl Tryd.underlying40 info50 rfl (by decide) (by omega) (.slice (some ad108) x7_1.length co23) x7_1 (⟨x8_1, wrap64 (x8_1 + 1), t107⟩ : S50) [.int .i64 x8_1, .int .i64 (wrap64 (x8_1 + 1)), .bool t107] (fun k_ => (w.heap.size ≤ k_)) (fun _ => False) rfl rfl ?aP (fun _ hk => hk.elim) ?aF ?aO ?aB ?aS ?aL ?_; (case aP => exact k50_mkM _ _ _ (⟨x8_1, wrap64 (x8_1 + 1), t107⟩ : S50)); (case aB => exact (by repeat (first | (with_reducible first | exact HB.out | apply below_alloc | apply pw_below_drewN | apply below_drew1 | refine below_set ?_ GE106.out | refine Ag.row_below ?_ GE106.out) | exact HB.out))); (case aF => exact (fun k_ hk => (Nat.le_trans (below_size (by repeat (first | (with_reducible first | exact HB.out | apply below_alloc | apply pw_below_drewN | apply below_drew1 | refine below_set ?_ GE106.out | refine Ag.row_below ?_ GE106.out) | exact HB.out))) hk))); (case aO => exact (by (with_reducible repeat (first | apply Kd.R_alloc | apply Kd.R_drewN | apply Kd.R_drew)); exact HO_7.out)); (case aS => exact (below_size (by repeat (first | (with_reducible first | exact HB.out | apply below_alloc | apply pw_below_drewN | apply below_drew1 | refine below_set ?_ GE106.out | refine Ag.row_below ?_ GE106.out) | exact HB.out)))); (case aL => have := LMc20.out; omega); intro v112 w24 ho hb hg hat; rw [← Ny111.out] at ho; have n0_ := Aside0.mk (blk_grown (g := gb106) (o := .cells (Ag.agC .u64 65 a0_0) 27 (0, 0)) (by (with_reducible repeat (first | refine blk_drewN ?_ _ | refine blk_drew ?_ | refine blk_alloc ?_ _)); exact BK106.out) hg (Kd.R_ne HO_7.out BK106.out (by decide))); have n1_ := Aside0.mk (hb); have n2_ := Aside0.mk (ho); clear BK106; clear HB; clear HO_7; have BK106 := n0_; have HB := n1_; have HO113 := n2_; clear n0_ n1_ n2_; clear ho hb hg hat))
                  go_roundg k1
                  case measure => have := HK1.out; omega
                  case rel => exact ⟨(y111), (wrap64 (x8_1 + 1)), (by first | rfl | (simp; done) | (simp [*]; done)), H', ⟨by have := HK1.out; omega⟩, ⟨by (with_reducible repeat (first | apply Kd.R_alloc | apply Kd.R_drewN | apply Kd.R_drew)); exact HO113.out⟩, ⟨by (with_reducible repeat (first | refine blk_drewN ?_ _ | refine blk_drew ?_ | refine blk_alloc ?_ _)); exact BK106.out⟩, ⟨by repeat (first | (with_reducible first | exact HB.out | apply below_alloc | apply pw_below_drewN | apply below_drew1 | refine below_set ?_ GE106.out | refine Ag.row_below ?_ GE106.out) | exact HB.out)⟩⟩
                · rw [if_neg c20] at H
                  exact absurd H (by simp)
            · rw [if_neg c12] at H
              exact absurd H (by simp)
          · rw [if_neg c11] at H
            exact absurd H (by simp)
        · rw [if_neg c9] at H
          have c9b0 : decide (0 < (x7_1.length : Int)) = false := decide_eq_false c9
          have c9b1 : decide (0 < x7_1.length) = false := decide_eq_false (by omega)
          clear c9
          by_cases c25 : x7_1.length < 5864062014805
          · rw [if_pos c25] at H
            have LMc25 := Aside0.mk c25
            clear c25
            obtain ⟨y114, hy114⟩ : ∃ y_ : List (S50), y_ = (x7_1 ++ [(⟨x8_1, wrap64 (x8_1 + 1), t107⟩ : S50)]) := ⟨_, rfl⟩
            replace H : (bitmap_Runs.l0 k1 ji5 y114 (wrap64 (x8_1 + 1)) a0_0) = some r := by first | (rw [hy114]; with_reducible exact H) | (have H2_ := (Option.bind_some _ _).symm.trans H; rw [hy114]; with_reducible exact H2_) | (have H2_ := (Option.bind_some _ _).symm.trans H; with_reducible exact H2_) | with_reducible exact H | (rw [hy114]; exact H) | exact H
            have Ny114 := Aside0.mk hy114
            clear hy114
            have H' := Aside0.mk H
            clear H
            go_wp2_with (first | ((with_reducible refine ag_gate (t := 27) rfl ?_); first | refine row_load rfl 27 _ rfl _ rfl .u64 65 _ 27 _ BK106.out Tryd.underlying27 rfl Ag.info_map ?_ | refine row_load rfl 27 _ rfl _ rfl .u64 65 _ 27 _ (by first | exact BK106.out | (repeat (first | exact BK106.out | refine blk_far ?_ (by assumption) _ | refine Ag.row_far ?_ (by assumption) _))) Tryd.underlying27 rfl Ag.info_map ?_) | ((with_reducible refine ag_gate_st (t := 27) rfl ?_); first | refine row_store2 rfl 27 _ _ rfl rfl _ rfl .u64 65 _ rfl _ 27 BK106.out Ag.info_map (Ag.agC_size _ _ _) ?_ | refine row_store2 rfl 27 _ _ rfl rfl _ rfl .u64 65 _ rfl _ 27 (by first | exact BK106.out | (repeat (first | exact BK106.out | refine blk_far ?_ (by assumption) _ | refine Ag.row_far ?_ (by assumption) _))) Ag.info_map (Ag.agC_size _ _ _) ?_) | ((with_reducible refine gate_callee (f := 17) rfl ?_); refine goesL_ (some 23) rfl rfl Tryd.func17 (by kernel_rfl) rfl #[.agg (Ag.agC .u64 65 a0_0), .int .i64 x8_1] rfl (by (try simp only [List.map_toArray, List.map_cons, List.map_nil]); first | done | rfl | (simp only [List.length_drop, List.length_take]; rfl)) ?_; (with_reducible refine (bitmap_Map_Has.calls a0_0 x8_1 t107 _ A8.out).mono ?_); rintro e w27 ⟨rfl, hb⟩; refine ⟨_, rfl, ?_⟩; have n0_ := Aside0.mk (Kd.R_below (by (with_reducible repeat (first | apply Kd.R_alloc | apply Kd.R_drewN | apply Kd.R_drew)); exact HO_7.out) hb); have n1_ := Aside0.mk (blk_below (g := gb106) (o := .cells (Ag.agC .u64 65 a0_0) 27 (0, 0)) (by (with_reducible repeat (first | refine blk_drewN ?_ _ | refine blk_drew ?_ | refine blk_alloc ?_ _)); exact BK106.out) hb); have n2_ := Aside0.mk (below_step (by repeat (first | (with_reducible first | exact HB.out | apply below_alloc | apply pw_below_drewN | apply below_drew1 | refine below_set ?_ GE106.out | refine Ag.row_below ?_ GE106.out) | exact HB.out)) hb); clear HO_7; clear BK106; clear HB; have HO_7 := n0_; have BK106 := n1_; have HB := n2_; clear n0_ n1_ n2_; (try clear hb); (try clear hb2); (try clear hk); (try clear hi); obtain ⟨Ao28, co28, eo28⟩ := Kd.R_slice HO_7.out; subst eo28) | ((with_reducible refine gate_builtin (b := .append) (xs := #[.tmp 47, .tmp 53]) rfl ?_); at_builtin; refine Kd.R_append k50 (w0 := w) w.heap.size rfl (.tmp 47) (.tmp 53) 40 50 (.agg #[(.int .i64 0), (.int .i64 0), (.bool false)]) 24 rfl Tryd.underlying40 info50 rfl (by decide) (by omega) (.slice Ao28 x7_1.length co28) x7_1 (⟨x8_1, wrap64 (x8_1 + 1), t107⟩ : S50) [.int .i64 x8_1, .int .i64 (wrap64 (x8_1 + 1)), .bool t107] (fun k_ => (w.heap.size ≤ k_)) (fun _ => False) rfl rfl ?aP (fun _ hk => hk.elim) ?aF ?aO ?aB ?aS ?aL ?_; (case aP => exact k50_mkM _ _ _ (⟨x8_1, wrap64 (x8_1 + 1), t107⟩ : S50)); (case aB => exact (by repeat (first | (with_reducible first | exact HB.out | apply below_alloc | apply pw_below_drewN | apply below_drew1 | refine below_set ?_ GE106.out | refine Ag.row_below ?_ GE106.out) | exact HB.out))); (case aF => exact (fun k_ hk => (Nat.le_trans (below_size (by repeat (first | (with_reducible first | exact HB.out | apply below_alloc | apply pw_below_drewN | apply below_drew1 | refine below_set ?_ GE106.out | refine Ag.row_below ?_ GE106.out) | exact HB.out))) hk))); (case aO => exact (by (with_reducible repeat (first | apply Kd.R_alloc | apply Kd.R_drewN | apply Kd.R_drew)); exact HO_7.out)); (case aS => exact (below_size (by repeat (first | (with_reducible first | exact HB.out | apply below_alloc | apply pw_below_drewN | apply below_drew1 | refine below_set ?_ GE106.out | refine Ag.row_below ?_ GE106.out) | exact HB.out)))); (case aL => have := LMc25.out; omega); intro v115 w29 ho hb hg hat; rw [← Ny114.out] at ho; have n0_ := Aside0.mk (blk_grown (g := gb106) (o := .cells (Ag.agC .u64 65 a0_0) 27 (0, 0)) (by (with_reducible repeat (first | refine blk_drewN ?_ _ | refine blk_drew ?_ | refine blk_alloc ?_ _)); exact BK106.out) hg (Kd.R_ne HO_7.out BK106.out (by decide))); have n1_ := Aside0.mk (hb); have n2_ := Aside0.mk (ho); clear BK106; clear HB; clear HO_7; have BK106 := n0_; have HB := n1_; have HO116 := n2_; clear n0_ n1_ n2_; clear ho hb hg hat))
            go_roundg k1
            case measure => have := HK1.out; omega
            case rel => exact ⟨(y114), (wrap64 (x8_1 + 1)), (by first | rfl | (simp; done) | (simp [*]; done)), H', ⟨by have := HK1.out; omega⟩, ⟨by (with_reducible repeat (first | apply Kd.R_alloc | apply Kd.R_drewN | apply Kd.R_drew)); exact HO116.out⟩, ⟨by (with_reducible repeat (first | refine blk_drewN ?_ _ | refine blk_drew ?_ | refine blk_alloc ?_ _)); exact BK106.out⟩, ⟨by repeat (first | (with_reducible first | exact HB.out | apply below_alloc | apply pw_below_drewN | apply below_drew1 | refine below_set ?_ GE106.out | refine Ag.row_below ?_ GE106.out) | exact HB.out)⟩⟩
          · rw [if_neg c25] at H
            exact absurd H (by simp)
      · rw [if_neg c7] at H
        have c7b0 : decide (x8_1 < ji5) = false := decide_eq_false c7
        clear c7
        replace H := Option.bind_eq_some_iff.mp H
        obtain ⟨t117, A300, H⟩ := H
        replace H : (some t117) = some r := H
        have A30 := Aside0.mk A300
        clear A300
        obtain rfl := Option.some.inj H
        obtain ⟨Ao31, co31, eo31⟩ := Kd.R_slice HO_7.out
        subst eo31
        go_wp2_with (first | ((with_reducible refine ag_gate (t := 27) rfl ?_); first | refine row_load rfl 27 _ rfl _ rfl .u64 65 _ 27 _ BK106.out Tryd.underlying27 rfl Ag.info_map ?_ | refine row_load rfl 27 _ rfl _ rfl .u64 65 _ 27 _ (by first | exact BK106.out | (repeat (first | exact BK106.out | refine blk_far ?_ (by assumption) _ | refine Ag.row_far ?_ (by assumption) _))) Tryd.underlying27 rfl Ag.info_map ?_) | ((with_reducible refine ag_gate_st (t := 27) rfl ?_); first | refine row_store2 rfl 27 _ _ rfl rfl _ rfl .u64 65 _ rfl _ 27 BK106.out Ag.info_map (Ag.agC_size _ _ _) ?_ | refine row_store2 rfl 27 _ _ rfl rfl _ rfl .u64 65 _ rfl _ 27 (by first | exact BK106.out | (repeat (first | exact BK106.out | refine blk_far ?_ (by assumption) _ | refine Ag.row_far ?_ (by assumption) _))) Ag.info_map (Ag.agC_size _ _ _) ?_) | ((with_reducible refine gate_callee (f := 62) rfl ?_); refine goesL_ (some 56) rfl rfl Tryd.func62 (by kernel_rfl) rfl #[.slice Ao31 x7_1.length co31] rfl (by (try simp only [List.map_toArray, List.map_cons, List.map_nil]); first | done | rfl | (simp only [List.length_drop, List.length_take]; rfl)) ?_; (with_reducible refine (api_Run_62.calls (fun k_ => some k_ = (.slice Ao31 x7_1.length co31 : Value).ownBlock) _ _ x7_1 t117 _ ?side1 A30.out).mono ?_); (case side1 => exact Kd.R_V (Kd.R_tight rfl (Kd.R_types (HO_7.out) BK106.out (by decide)))); rintro e w32 ⟨v118, rfl, ho0, hb⟩; refine ⟨_, rfl, ?_⟩; have n0_ := Aside0.mk (Kd.R_below (by (with_reducible repeat (first | apply Kd.R_alloc | apply Kd.R_drewN | apply Kd.R_drew)); exact HO_7.out) hb); have n1_ := Aside0.mk (Kd.V_lower (Kd.V_mono (ok' := fun k_ => (w.heap.size ≤ k_) ∧ k_ ≠ gb106) ho0 (fun k_ hk_ => ⟨Or.elim hk_ (fun hs_ => ((Kd.R_types (HO_7.out) BK106.out (by decide)).1 k_ hs_.symm).1) (fun hn_ => (Nat.le_trans (below_size (by repeat (first | (with_reducible first | exact HB.out | apply below_alloc | apply pw_below_drewN | apply below_drew1 | refine below_set ?_ GE106.out | refine Ag.row_below ?_ GE106.out) | exact HB.out))) hn_)), Or.elim hk_ (fun hs_ => ((Kd.R_types (HO_7.out) BK106.out (by decide)).1 k_ hs_.symm).2) (fun hn_ => (Kd.freshB (g := gb106) (o := .cells (Ag.agC .u64 65 a0_0) 27 (0, 0)) (by (with_reducible repeat (first | refine blk_drewN ?_ _ | refine blk_drew ?_ | refine blk_alloc ?_ _)); exact BK106.out) k_ hn_))⟩)) (below_size (by repeat (first | (with_reducible first | exact HB.out | apply below_alloc | apply pw_below_drewN | apply below_drew1 | refine below_set ?_ GE106.out | refine Ag.row_below ?_ GE106.out) | exact HB.out)))); have n2_ := Aside0.mk (blk_below (g := gb106) (o := .cells (Ag.agC .u64 65 a0_0) 27 (0, 0)) (by (with_reducible repeat (first | refine blk_drewN ?_ _ | refine blk_drew ?_ | refine blk_alloc ?_ _)); exact BK106.out) hb); have n3_ := Aside0.mk (below_step (by repeat (first | (with_reducible first | exact HB.out | apply below_alloc | apply pw_below_drewN | apply below_drew1 | refine below_set ?_ GE106.out | refine Ag.row_below ?_ GE106.out) | exact HB.out)) hb); clear HO_7; clear BK106; clear HB; have HO_7 := n0_; have HO119 := n1_; have BK106 := n2_; have HB := n3_; clear n0_ n1_ n2_ n3_; (try clear hb); (try clear hb2); (try clear hk); (try clear hi); (try clear ho0)))
        go_ret
        exact ⟨_, by first | rfl | (simp [errW_none, errW_some] <;> rfl) | (simp only [← hji4, ← hji5]; first | rfl | (simp [errW_none, errW_some] <;> rfl)) | (simp [*, errW_none, errW_some] <;> rfl), by (with_reducible repeat (first | apply Kd.V_alloc | apply Kd.V_drewN | apply Kd.V_drew)); exact Kd.V_mono HO119.out (fun _ hk => hk.1), by repeat (first | (with_reducible first | exact HB.out | apply below_alloc | apply pw_below_drewN | apply below_drew1 | refine below_set ?_ GE106.out | refine Ag.row_below ?_ GE106.out) | exact HB.out)⟩
def spencelaw18_awake.f (k : Nat)  : Option (Bool) := (bitmap_Of.f (([1, 2] : List Int))).bind fun t123 => ((bitmap_Runs.f k t123 0 4).bind fun t124 => (if (t124.length : Int) = 3 then (if 1 < (t124.length : Int) then (if (rd_T50 t124 1).f2 = true then (if ((rd_T50 t124 1).f0) = 1 then (some (((rd_T50 t124 1).f1) == 3)) else (some false)) else (some false)) else (none)) else (some false)))
theorem spencelaw18_awake.mono : ∀ k, LeO (spencelaw18_awake.f k ) (spencelaw18_awake.f (k + 1) ) := by
  intro  k
  unfold spencelaw18_awake.f
  repeat' first
      | (with_reducible exact bitmap_Runs.mono _ _ _ _)
      | (with_reducible exact LeO.refl _)
      | (with_reducible exact LeO.none _)
      | (with_reducible refine LeO.ite ?_ ?_)
      | (with_reducible refine LeO.bind ?_ (fun _ => ?_))
      | exact bitmap_Runs.mono _ _ _ _
      | exact LeO.none _
      | refine LeO.ite ?_ ?_
      | refine LeO.bind ?_ (fun _ => ?_)
set_option maxHeartbeats 8000000 in
set_option maxRecDepth 100000 in
theorem spencelaw18_awake.calls (k : Nat)  (r : Bool) (w : World) (h : spencelaw18_awake.f k  = some r) :
    Calls Tryd.prog 9 #[] w fun e w' => e = .returned (.bool r) ∧ Below w.heap.size w w' := by
  have HB := Aside0.mk (Below.refl w.heap.size w)
  have H : ((bitmap_Of.f (([1, 2] : List Int))).bind fun t123 => ((bitmap_Runs.f k t123 0 4).bind fun t124 => (if (t124.length : Int) = 3 then (if 1 < (t124.length : Int) then (if (rd_T50 t124 1).f2 = true then (if ((rd_T50 t124 1).f0) = 1 then (some (((rd_T50 t124 1).f1) == 3)) else (some false)) else (some false)) else (none)) else (some false)))) = some r := h
  clear h
  obtain ⟨y120, hy120⟩ : ∃ y_ : List Int, y_ = (([1, 2] : List Int)) := ⟨_, rfl⟩
  replace H : ((bitmap_Of.f y120).bind fun t123 => ((bitmap_Runs.f k t123 0 4).bind fun t124 => (if (t124.length : Int) = 3 then (if 1 < (t124.length : Int) then (if (rd_T50 t124 1).f2 = true then (if ((rd_T50 t124 1).f0) = 1 then (some (((rd_T50 t124 1).f1) == 3)) else (some false)) else (some false)) else (none)) else (some false)))) = some r := by first | (rw [hy120]; with_reducible exact H) | (have H2_ := (Option.bind_some _ _).symm.trans H; rw [hy120]; with_reducible exact H2_) | (have H2_ := (Option.bind_some _ _).symm.trans H; with_reducible exact H2_) | with_reducible exact H | (rw [hy120]; exact H) | exact H
  have Ny120 := Aside0.mk hy120
  clear hy120
  replace H := Option.bind_eq_some_iff.mp H
  obtain ⟨t123, A10, H⟩ := H
  replace H : ((bitmap_Runs.f k t123 0 4).bind fun t124 => (if (t124.length : Int) = 3 then (if 1 < (t124.length : Int) then (if (rd_T50 t124 1).f2 = true then (if ((rd_T50 t124 1).f0) = 1 then (some (((rd_T50 t124 1).f1) == 3)) else (some false)) else (some false)) else (none)) else (some false))) = some r := H
  have A1 := Aside0.mk A10
  clear A10
  replace H := Option.bind_eq_some_iff.mp H
  obtain ⟨t124, A20, H⟩ := H
  replace H : (if (t124.length : Int) = 3 then (if 1 < (t124.length : Int) then (if (rd_T50 t124 1).f2 = true then (if ((rd_T50 t124 1).f0) = 1 then (some (((rd_T50 t124 1).f1) == 3)) else (some false)) else (some false)) else (none)) else (some false)) = some r := H
  have A2 := Aside0.mk A20
  clear A20
  by_cases c3 : (t124.length : Int) = 3
  · rw [if_pos c3] at H
    have c3b0 : ((t124.length : Int) == 3) = true := beq_iff_eq.mpr c3
    have c3b1 : ((t124.length : Int) != 3) = false := bne_eq_false_iff_eq.mpr c3
    clear c3
    by_cases c4 : 1 < (t124.length : Int)
    · rw [if_pos c4] at H
      have c4b0 : decide (1 < (t124.length : Int)) = true := decide_eq_true c4
      have c4b1 : decide (1 < t124.length) = true := decide_eq_true (by omega)
      clear c4
      obtain ⟨bq5, hbq5⟩ : ∃ b_ : Bool, b_ = ((rd_T50 t124 1).f2) := ⟨_, rfl⟩
      replace H : (if bq5 = true then (if ((rd_T50 t124 1).f0) = 1 then (some (((rd_T50 t124 1).f1) == 3)) else (some false)) else (some false)) = some r := by rw [← hbq5] at H; exact H
      have Nbq5 := Aside0.mk hbq5
      clear hbq5
      by_cases c6 : bq5 = true
      · subst c6
        have H1 : (if ((rd_T50 t124 1).f0) = 1 then (some (((rd_T50 t124 1).f1) == 3)) else (some false)) = some r := by rw [if_pos rfl] at H; exact H
        clear H
        have H := H1
        clear H1
        by_cases c7 : ((rd_T50 t124 1).f0) = 1
        · rw [if_pos c7] at H
          have c7b0 : (((rd_T50 t124 1).f0) == 1) = true := beq_iff_eq.mpr c7
          have c7b1 : (((rd_T50 t124 1).f0) != 1) = false := bne_eq_false_iff_eq.mpr c7
          clear c7
          obtain rfl := Option.some.inj H
          go_enter Tryd.func9, Tryd.ntmps9
          go_wp2_with (first | ((with_reducible refine gate_dst (N := 2) rfl ?_); refine Kd.R_lit (Kd.int .i64) _ 3 ?hg (N := 2) ?hd (xs := ([1, 2] : List Int)) (inner := [.int .i64 1, .int .i64 2]) (ok := fun _ => True) (okp := fun _ => True) ?hr ?hp (fun _ hk => hk) trivial (Below.refl _ _) (Nat.le_refl _) (by simp) ?_; (case hd => rfl); (case hg => rfl); (case hr => first | (go_simp; done) | (go_simp; rfl)); (case hp => exact (Reps.one (show Kd.M (Kd.int .i64) _ _ _ 1 [.int .i64 1] from rfl) (Reps.one (show Kd.M (Kd.int .i64) _ _ _ 2 [.int .i64 2] from rfl) (Reps.none _ _)))); intro v121 w8 ho9 hb hg_ hnew_; clear hg_ hnew_; (first | rw [← Ny120.out] at ho9 | (simp only [Int.reduceToNat] at ho9; rw [← Ny120.out] at ho9)); have n0_ := Aside0.mk (Kd.R_lower ho9 (below_size (by repeat (first | (with_reducible first | exact HB.out | apply below_alloc | apply pw_below_drewN | apply below_drew1) | exact HB.out)))); have n1_ := Aside0.mk (below_step (by repeat (first | (with_reducible first | exact HB.out | apply below_alloc | apply pw_below_drewN | apply below_drew1) | exact HB.out)) hb); clear HB; have HO122 := n0_; have HB := n1_; clear n0_ n1_; clear hb ho9; obtain ⟨Ao10, co10, eo10⟩ := Kd.R_slice HO122.out; subst eo10) | ((with_reducible refine gate_callee (f := 10) rfl ?_); refine goesL_ (some 3) rfl rfl Tryd.func10 (by kernel_rfl) rfl #[.slice Ao10 y120.length co10] rfl (by (try simp only [List.map_toArray, List.map_cons, List.map_nil]); first | done | rfl | (simp only [List.length_drop, List.length_take]; rfl)) ?_; (with_reducible refine (bitmap_Of.calls _ _ y120 t123 _ ?side1 ?side2 A1.out).mono ?_); (case side1 => repeat (first | exact (Kd.R_reads' HO122.out).2.2 | (with_reducible refine Kd.C_alloc ?_ _) | (with_reducible refine Kd.C_drewN ?_ _) | (with_reducible refine Kd.C_drew ?_))); (case side2 => exact (Kd.R_reads' HO122.out).2.1); rintro e w11 ⟨rfl, hb⟩; refine ⟨_, rfl, ?_⟩; have n0_ := Aside0.mk (Kd.R_below (by (with_reducible repeat (first | apply Kd.R_alloc | apply Kd.R_drewN | apply Kd.R_drew)); exact HO122.out) hb); have n1_ := Aside0.mk (below_step (by repeat (first | (with_reducible first | exact HB.out | apply below_alloc | apply pw_below_drewN | apply below_drew1) | exact HB.out)) hb); clear HO122; clear HB; have HO122 := n0_; have HB := n1_; clear n0_ n1_; (try clear hb); (try clear hb2); (try clear hk); (try clear hi)) | ((with_reducible refine gate_callee (f := 42) rfl ?_); refine goesL_ (some 4) rfl rfl Tryd.func42 (by kernel_rfl) rfl #[.agg (Ag.agC .u64 65 t123), .int .i64 0, .int .i64 4] rfl (by (try simp only [List.map_toArray, List.map_cons, List.map_nil]); first | done | rfl | (simp only [List.length_drop, List.length_take]; rfl)) ?_; (with_reducible refine (bitmap_Runs.calls k t123 0 4 t124 _ A2.out).mono ?_); rintro e w12 ⟨v125, rfl, ho0, hb⟩; refine ⟨_, rfl, ?_⟩; have n0_ := Aside0.mk (Kd.R_below (by (with_reducible repeat (first | apply Kd.R_alloc | apply Kd.R_drewN | apply Kd.R_drew)); exact HO122.out) hb); have n1_ := Aside0.mk (Kd.V_lower (Kd.V_mono (ok' := fun k_ => some k_ ≠ (.slice Ao10 y120.length co10 : Value).ownBlock) ho0 (fun k_ hk_ => (Kd.fresh' (Kd.R_lt (by (with_reducible repeat (first | apply Kd.R_alloc | apply Kd.R_drewN | apply Kd.R_drew)); exact HO122.out)) k_ hk_))) (below_size (by repeat (first | (with_reducible first | exact HB.out | apply below_alloc | apply pw_below_drewN | apply below_drew1) | exact HB.out)))); have n2_ := Aside0.mk (below_step (by repeat (first | (with_reducible first | exact HB.out | apply below_alloc | apply pw_below_drewN | apply below_drew1) | exact HB.out)) hb); clear HO122; clear HB; have HO122 := n0_; have HO126 := n1_; have HB := n2_; clear n0_ n1_ n2_; (try clear hb); (try clear hb2); (try clear hk); (try clear hi); (try clear ho0); obtain ⟨Ao13, co13, eo13⟩ := Kd.V_slice HO126.out; subst eo13; have p127 : 0 ≤ (1 : Int) := (by omega); have q127 : 1 < (t124.length : Int) := of_decide_eq_true (by first | (with_reducible assumption) | assumption); obtain ⟨ad127, e127, hx127_0, hx127_1, hx127_2⟩ := at_T50 (Kd.V_reads' HO126.out).2.2 1 p127 q127; (try rw [← Nbq5.out] at hx127_2); cases e127; (try simp only [show (1 : Int).toNat = 1 from rfl, Nat.reduceMul, Nat.reduceEqDiff, Go.Addr.add, ↓reduceIte] at hx127_0); (try simp only [show (1 : Int).toNat = 1 from rfl, Nat.reduceMul, Nat.reduceEqDiff, Go.Addr.add, ↓reduceIte] at hx127_1); (try simp only [show (1 : Int).toNat = 1 from rfl, Nat.reduceMul, Nat.reduceEqDiff, Go.Addr.add, ↓reduceIte] at hx127_2); have qi127 : (1 < t124.length) = True := eq_true (by omega); (try rw [show ((1 : Int)).toNat = 1 from rfl] at hx127_0); (try rw [show 1 * 3 = 3 from rfl] at hx127_0); (try rw [show ((1 : Int)).toNat = 1 from rfl] at hx127_1); (try rw [show 1 * 3 = 3 from rfl] at hx127_1); (try rw [show ((1 : Int)).toNat = 1 from rfl] at hx127_2); (try rw [show 1 * 3 = 3 from rfl] at hx127_2); replace p127 := eq_true p127; replace q127 := eq_true q127; have p128 : 0 ≤ (1 : Int) := (by omega); have q128 : 1 < (t124.length : Int) := of_decide_eq_true (by first | (with_reducible assumption) | assumption); obtain ⟨ad128, e128, hx128_0, hx128_1, hx128_2⟩ := at_T50 (Kd.V_reads' HO126.out).2.2 1 p128 q128; (try rw [← Nbq5.out] at hx128_2); obtain rfl : ad127 = ad128 := (by injection e128); (try simp only [show (1 : Int).toNat = 1 from rfl, Nat.reduceMul, Nat.reduceEqDiff, Go.Addr.add, ↓reduceIte] at hx128_0); (try simp only [show (1 : Int).toNat = 1 from rfl, Nat.reduceMul, Nat.reduceEqDiff, Go.Addr.add, ↓reduceIte] at hx128_1); (try simp only [show (1 : Int).toNat = 1 from rfl, Nat.reduceMul, Nat.reduceEqDiff, Go.Addr.add, ↓reduceIte] at hx128_2); have qi128 : (1 < t124.length) = True := eq_true (by omega); (try rw [show ((1 : Int)).toNat = 1 from rfl] at hx128_0); (try rw [show 1 * 3 = 3 from rfl] at hx128_0); (try rw [show ((1 : Int)).toNat = 1 from rfl] at hx128_1); (try rw [show 1 * 3 = 3 from rfl] at hx128_1); (try rw [show ((1 : Int)).toNat = 1 from rfl] at hx128_2); (try rw [show 1 * 3 = 3 from rfl] at hx128_2); replace p128 := eq_true p128; replace q128 := eq_true q128; have p129 : 0 ≤ (1 : Int) := (by omega); have q129 : 1 < (t124.length : Int) := of_decide_eq_true (by first | (with_reducible assumption) | assumption); obtain ⟨ad129, e129, hx129_0, hx129_1, hx129_2⟩ := at_T50 (Kd.V_reads' HO126.out).2.2 1 p129 q129; (try rw [← Nbq5.out] at hx129_2); obtain rfl : ad127 = ad129 := (by injection e129); (try simp only [show (1 : Int).toNat = 1 from rfl, Nat.reduceMul, Nat.reduceEqDiff, Go.Addr.add, ↓reduceIte] at hx129_0); (try simp only [show (1 : Int).toNat = 1 from rfl, Nat.reduceMul, Nat.reduceEqDiff, Go.Addr.add, ↓reduceIte] at hx129_1); (try simp only [show (1 : Int).toNat = 1 from rfl, Nat.reduceMul, Nat.reduceEqDiff, Go.Addr.add, ↓reduceIte] at hx129_2); have qi129 : (1 < t124.length) = True := eq_true (by omega); (try rw [show ((1 : Int)).toNat = 1 from rfl] at hx129_0); (try rw [show 1 * 3 = 3 from rfl] at hx129_0); (try rw [show ((1 : Int)).toNat = 1 from rfl] at hx129_1); (try rw [show 1 * 3 = 3 from rfl] at hx129_1); (try rw [show ((1 : Int)).toNat = 1 from rfl] at hx129_2); (try rw [show 1 * 3 = 3 from rfl] at hx129_2); replace p129 := eq_true p129; replace q129 := eq_true q129))
          go_ret
          exact ⟨by first | rfl | exact ne_empty _ | exact eq_empty _ | (simp [errW_none, errW_some] <;> rfl) | (simp [*, errW_none, errW_some] <;> rfl), by repeat (first | (with_reducible first | exact HB.out | apply below_alloc | apply pw_below_drewN | apply below_drew1) | exact HB.out)⟩
        · rw [if_neg c7] at H
          have c7b0 : (((rd_T50 t124 1).f0) == 1) = false := beq_eq_false_iff_ne.mpr c7
          have c7b1 : (((rd_T50 t124 1).f0) != 1) = true := bne_iff_ne.mpr c7
          obtain rfl := Option.some.inj H
          go_enter Tryd.func9, Tryd.ntmps9
          go_wp2_with (first | ((with_reducible refine gate_dst (N := 2) rfl ?_); refine Kd.R_lit (Kd.int .i64) _ 3 ?hg (N := 2) ?hd (xs := ([1, 2] : List Int)) (inner := [.int .i64 1, .int .i64 2]) (ok := fun _ => True) (okp := fun _ => True) ?hr ?hp (fun _ hk => hk) trivial (Below.refl _ _) (Nat.le_refl _) (by simp) ?_; (case hd => rfl); (case hg => rfl); (case hr => first | (go_simp; done) | (go_simp; rfl)); (case hp => exact (Reps.one (show Kd.M (Kd.int .i64) _ _ _ 1 [.int .i64 1] from rfl) (Reps.one (show Kd.M (Kd.int .i64) _ _ _ 2 [.int .i64 2] from rfl) (Reps.none _ _)))); intro v121 w14 ho15 hb hg_ hnew_; clear hg_ hnew_; (first | rw [← Ny120.out] at ho15 | (simp only [Int.reduceToNat] at ho15; rw [← Ny120.out] at ho15)); have n0_ := Aside0.mk (Kd.R_lower ho15 (below_size (by repeat (first | (with_reducible first | exact HB.out | apply below_alloc | apply pw_below_drewN | apply below_drew1) | exact HB.out)))); have n1_ := Aside0.mk (below_step (by repeat (first | (with_reducible first | exact HB.out | apply below_alloc | apply pw_below_drewN | apply below_drew1) | exact HB.out)) hb); clear HB; have HO122 := n0_; have HB := n1_; clear n0_ n1_; clear hb ho15; obtain ⟨Ao16, co16, eo16⟩ := Kd.R_slice HO122.out; subst eo16) | ((with_reducible refine gate_callee (f := 10) rfl ?_); refine goesL_ (some 3) rfl rfl Tryd.func10 (by kernel_rfl) rfl #[.slice Ao16 y120.length co16] rfl (by (try simp only [List.map_toArray, List.map_cons, List.map_nil]); first | done | rfl | (simp only [List.length_drop, List.length_take]; rfl)) ?_; (with_reducible refine (bitmap_Of.calls _ _ y120 t123 _ ?side1 ?side2 A1.out).mono ?_); (case side1 => repeat (first | exact (Kd.R_reads' HO122.out).2.2 | (with_reducible refine Kd.C_alloc ?_ _) | (with_reducible refine Kd.C_drewN ?_ _) | (with_reducible refine Kd.C_drew ?_))); (case side2 => exact (Kd.R_reads' HO122.out).2.1); rintro e w17 ⟨rfl, hb⟩; refine ⟨_, rfl, ?_⟩; have n0_ := Aside0.mk (Kd.R_below (by (with_reducible repeat (first | apply Kd.R_alloc | apply Kd.R_drewN | apply Kd.R_drew)); exact HO122.out) hb); have n1_ := Aside0.mk (below_step (by repeat (first | (with_reducible first | exact HB.out | apply below_alloc | apply pw_below_drewN | apply below_drew1) | exact HB.out)) hb); clear HO122; clear HB; have HO122 := n0_; have HB := n1_; clear n0_ n1_; (try clear hb); (try clear hb2); (try clear hk); (try clear hi)) | ((with_reducible refine gate_callee (f := 42) rfl ?_); refine goesL_ (some 4) rfl rfl Tryd.func42 (by kernel_rfl) rfl #[.agg (Ag.agC .u64 65 t123), .int .i64 0, .int .i64 4] rfl (by (try simp only [List.map_toArray, List.map_cons, List.map_nil]); first | done | rfl | (simp only [List.length_drop, List.length_take]; rfl)) ?_; (with_reducible refine (bitmap_Runs.calls k t123 0 4 t124 _ A2.out).mono ?_); rintro e w18 ⟨v125, rfl, ho0, hb⟩; refine ⟨_, rfl, ?_⟩; have n0_ := Aside0.mk (Kd.R_below (by (with_reducible repeat (first | apply Kd.R_alloc | apply Kd.R_drewN | apply Kd.R_drew)); exact HO122.out) hb); have n1_ := Aside0.mk (Kd.V_lower (Kd.V_mono (ok' := fun k_ => some k_ ≠ (.slice Ao16 y120.length co16 : Value).ownBlock) ho0 (fun k_ hk_ => (Kd.fresh' (Kd.R_lt (by (with_reducible repeat (first | apply Kd.R_alloc | apply Kd.R_drewN | apply Kd.R_drew)); exact HO122.out)) k_ hk_))) (below_size (by repeat (first | (with_reducible first | exact HB.out | apply below_alloc | apply pw_below_drewN | apply below_drew1) | exact HB.out)))); have n2_ := Aside0.mk (below_step (by repeat (first | (with_reducible first | exact HB.out | apply below_alloc | apply pw_below_drewN | apply below_drew1) | exact HB.out)) hb); clear HO122; clear HB; have HO122 := n0_; have HO126 := n1_; have HB := n2_; clear n0_ n1_ n2_; (try clear hb); (try clear hb2); (try clear hk); (try clear hi); (try clear ho0); obtain ⟨Ao19, co19, eo19⟩ := Kd.V_slice HO126.out; subst eo19; have p127 : 0 ≤ (1 : Int) := (by omega); have q127 : 1 < (t124.length : Int) := of_decide_eq_true (by first | (with_reducible assumption) | assumption); obtain ⟨ad127, e127, hx127_0, hx127_1, hx127_2⟩ := at_T50 (Kd.V_reads' HO126.out).2.2 1 p127 q127; (try rw [← Nbq5.out] at hx127_2); cases e127; (try simp only [show (1 : Int).toNat = 1 from rfl, Nat.reduceMul, Nat.reduceEqDiff, Go.Addr.add, ↓reduceIte] at hx127_0); (try simp only [show (1 : Int).toNat = 1 from rfl, Nat.reduceMul, Nat.reduceEqDiff, Go.Addr.add, ↓reduceIte] at hx127_1); (try simp only [show (1 : Int).toNat = 1 from rfl, Nat.reduceMul, Nat.reduceEqDiff, Go.Addr.add, ↓reduceIte] at hx127_2); have qi127 : (1 < t124.length) = True := eq_true (by omega); (try rw [show ((1 : Int)).toNat = 1 from rfl] at hx127_0); (try rw [show 1 * 3 = 3 from rfl] at hx127_0); (try rw [show ((1 : Int)).toNat = 1 from rfl] at hx127_1); (try rw [show 1 * 3 = 3 from rfl] at hx127_1); (try rw [show ((1 : Int)).toNat = 1 from rfl] at hx127_2); (try rw [show 1 * 3 = 3 from rfl] at hx127_2); replace p127 := eq_true p127; replace q127 := eq_true q127; have p128 : 0 ≤ (1 : Int) := (by omega); have q128 : 1 < (t124.length : Int) := of_decide_eq_true (by first | (with_reducible assumption) | assumption); obtain ⟨ad128, e128, hx128_0, hx128_1, hx128_2⟩ := at_T50 (Kd.V_reads' HO126.out).2.2 1 p128 q128; (try rw [← Nbq5.out] at hx128_2); obtain rfl : ad127 = ad128 := (by injection e128); (try simp only [show (1 : Int).toNat = 1 from rfl, Nat.reduceMul, Nat.reduceEqDiff, Go.Addr.add, ↓reduceIte] at hx128_0); (try simp only [show (1 : Int).toNat = 1 from rfl, Nat.reduceMul, Nat.reduceEqDiff, Go.Addr.add, ↓reduceIte] at hx128_1); (try simp only [show (1 : Int).toNat = 1 from rfl, Nat.reduceMul, Nat.reduceEqDiff, Go.Addr.add, ↓reduceIte] at hx128_2); have qi128 : (1 < t124.length) = True := eq_true (by omega); (try rw [show ((1 : Int)).toNat = 1 from rfl] at hx128_0); (try rw [show 1 * 3 = 3 from rfl] at hx128_0); (try rw [show ((1 : Int)).toNat = 1 from rfl] at hx128_1); (try rw [show 1 * 3 = 3 from rfl] at hx128_1); (try rw [show ((1 : Int)).toNat = 1 from rfl] at hx128_2); (try rw [show 1 * 3 = 3 from rfl] at hx128_2); replace p128 := eq_true p128; replace q128 := eq_true q128))
          go_ret
          exact ⟨by first | rfl | exact ne_empty _ | exact eq_empty _ | (simp [errW_none, errW_some] <;> rfl) | (simp [*, errW_none, errW_some] <;> rfl), by repeat (first | (with_reducible first | exact HB.out | apply below_alloc | apply pw_below_drewN | apply below_drew1) | exact HB.out)⟩
      · replace c6 := Bool.eq_false_iff.mpr c6
        subst c6
        have H1 : (some false) = some r := by rw [if_neg (show ¬ (false = true) by decide)] at H; exact H
        clear H
        have H := H1
        clear H1
        obtain rfl := Option.some.inj H
        go_enter Tryd.func9, Tryd.ntmps9
        go_wp2_with (first | ((with_reducible refine gate_dst (N := 2) rfl ?_); refine Kd.R_lit (Kd.int .i64) _ 3 ?hg (N := 2) ?hd (xs := ([1, 2] : List Int)) (inner := [.int .i64 1, .int .i64 2]) (ok := fun _ => True) (okp := fun _ => True) ?hr ?hp (fun _ hk => hk) trivial (Below.refl _ _) (Nat.le_refl _) (by simp) ?_; (case hd => rfl); (case hg => rfl); (case hr => first | (go_simp; done) | (go_simp; rfl)); (case hp => exact (Reps.one (show Kd.M (Kd.int .i64) _ _ _ 1 [.int .i64 1] from rfl) (Reps.one (show Kd.M (Kd.int .i64) _ _ _ 2 [.int .i64 2] from rfl) (Reps.none _ _)))); intro v121 w20 ho21 hb hg_ hnew_; clear hg_ hnew_; (first | rw [← Ny120.out] at ho21 | (simp only [Int.reduceToNat] at ho21; rw [← Ny120.out] at ho21)); have n0_ := Aside0.mk (Kd.R_lower ho21 (below_size (by repeat (first | (with_reducible first | exact HB.out | apply below_alloc | apply pw_below_drewN | apply below_drew1) | exact HB.out)))); have n1_ := Aside0.mk (below_step (by repeat (first | (with_reducible first | exact HB.out | apply below_alloc | apply pw_below_drewN | apply below_drew1) | exact HB.out)) hb); clear HB; have HO122 := n0_; have HB := n1_; clear n0_ n1_; clear hb ho21; obtain ⟨Ao22, co22, eo22⟩ := Kd.R_slice HO122.out; subst eo22) | ((with_reducible refine gate_callee (f := 10) rfl ?_); refine goesL_ (some 3) rfl rfl Tryd.func10 (by kernel_rfl) rfl #[.slice Ao22 y120.length co22] rfl (by (try simp only [List.map_toArray, List.map_cons, List.map_nil]); first | done | rfl | (simp only [List.length_drop, List.length_take]; rfl)) ?_; (with_reducible refine (bitmap_Of.calls _ _ y120 t123 _ ?side1 ?side2 A1.out).mono ?_); (case side1 => repeat (first | exact (Kd.R_reads' HO122.out).2.2 | (with_reducible refine Kd.C_alloc ?_ _) | (with_reducible refine Kd.C_drewN ?_ _) | (with_reducible refine Kd.C_drew ?_))); (case side2 => exact (Kd.R_reads' HO122.out).2.1); rintro e w23 ⟨rfl, hb⟩; refine ⟨_, rfl, ?_⟩; have n0_ := Aside0.mk (Kd.R_below (by (with_reducible repeat (first | apply Kd.R_alloc | apply Kd.R_drewN | apply Kd.R_drew)); exact HO122.out) hb); have n1_ := Aside0.mk (below_step (by repeat (first | (with_reducible first | exact HB.out | apply below_alloc | apply pw_below_drewN | apply below_drew1) | exact HB.out)) hb); clear HO122; clear HB; have HO122 := n0_; have HB := n1_; clear n0_ n1_; (try clear hb); (try clear hb2); (try clear hk); (try clear hi)) | ((with_reducible refine gate_callee (f := 42) rfl ?_); refine goesL_ (some 4) rfl rfl Tryd.func42 (by kernel_rfl) rfl #[.agg (Ag.agC .u64 65 t123), .int .i64 0, .int .i64 4] rfl (by (try simp only [List.map_toArray, List.map_cons, List.map_nil]); first | done | rfl | (simp only [List.length_drop, List.length_take]; rfl)) ?_; (with_reducible refine (bitmap_Runs.calls k t123 0 4 t124 _ A2.out).mono ?_); rintro e w24 ⟨v125, rfl, ho0, hb⟩; refine ⟨_, rfl, ?_⟩; have n0_ := Aside0.mk (Kd.R_below (by (with_reducible repeat (first | apply Kd.R_alloc | apply Kd.R_drewN | apply Kd.R_drew)); exact HO122.out) hb); have n1_ := Aside0.mk (Kd.V_lower (Kd.V_mono (ok' := fun k_ => some k_ ≠ (.slice Ao22 y120.length co22 : Value).ownBlock) ho0 (fun k_ hk_ => (Kd.fresh' (Kd.R_lt (by (with_reducible repeat (first | apply Kd.R_alloc | apply Kd.R_drewN | apply Kd.R_drew)); exact HO122.out)) k_ hk_))) (below_size (by repeat (first | (with_reducible first | exact HB.out | apply below_alloc | apply pw_below_drewN | apply below_drew1) | exact HB.out)))); have n2_ := Aside0.mk (below_step (by repeat (first | (with_reducible first | exact HB.out | apply below_alloc | apply pw_below_drewN | apply below_drew1) | exact HB.out)) hb); clear HO122; clear HB; have HO122 := n0_; have HO126 := n1_; have HB := n2_; clear n0_ n1_ n2_; (try clear hb); (try clear hb2); (try clear hk); (try clear hi); (try clear ho0); obtain ⟨Ao25, co25, eo25⟩ := Kd.V_slice HO126.out; subst eo25; have p127 : 0 ≤ (1 : Int) := (by omega); have q127 : 1 < (t124.length : Int) := of_decide_eq_true (by first | (with_reducible assumption) | assumption); obtain ⟨ad127, e127, hx127_0, hx127_1, hx127_2⟩ := at_T50 (Kd.V_reads' HO126.out).2.2 1 p127 q127; (try rw [← Nbq5.out] at hx127_2); cases e127; (try simp only [show (1 : Int).toNat = 1 from rfl, Nat.reduceMul, Nat.reduceEqDiff, Go.Addr.add, ↓reduceIte] at hx127_0); (try simp only [show (1 : Int).toNat = 1 from rfl, Nat.reduceMul, Nat.reduceEqDiff, Go.Addr.add, ↓reduceIte] at hx127_1); (try simp only [show (1 : Int).toNat = 1 from rfl, Nat.reduceMul, Nat.reduceEqDiff, Go.Addr.add, ↓reduceIte] at hx127_2); have qi127 : (1 < t124.length) = True := eq_true (by omega); (try rw [show ((1 : Int)).toNat = 1 from rfl] at hx127_0); (try rw [show 1 * 3 = 3 from rfl] at hx127_0); (try rw [show ((1 : Int)).toNat = 1 from rfl] at hx127_1); (try rw [show 1 * 3 = 3 from rfl] at hx127_1); (try rw [show ((1 : Int)).toNat = 1 from rfl] at hx127_2); (try rw [show 1 * 3 = 3 from rfl] at hx127_2); replace p127 := eq_true p127; replace q127 := eq_true q127))
        go_ret
        exact ⟨by first | rfl | exact ne_empty _ | exact eq_empty _ | (simp [errW_none, errW_some] <;> rfl) | (simp [*, errW_none, errW_some] <;> rfl), by repeat (first | (with_reducible first | exact HB.out | apply below_alloc | apply pw_below_drewN | apply below_drew1) | exact HB.out)⟩
    · rw [if_neg c4] at H
      exact absurd H (by simp)
  · rw [if_neg c3] at H
    have c3b0 : ((t124.length : Int) == 3) = false := beq_eq_false_iff_ne.mpr c3
    have c3b1 : ((t124.length : Int) != 3) = true := bne_iff_ne.mpr c3
    obtain rfl := Option.some.inj H
    go_enter Tryd.func9, Tryd.ntmps9
    go_wp2_with (first | ((with_reducible refine gate_dst (N := 2) rfl ?_); refine Kd.R_lit (Kd.int .i64) _ 3 ?hg (N := 2) ?hd (xs := ([1, 2] : List Int)) (inner := [.int .i64 1, .int .i64 2]) (ok := fun _ => True) (okp := fun _ => True) ?hr ?hp (fun _ hk => hk) trivial (Below.refl _ _) (Nat.le_refl _) (by simp) ?_; (case hd => rfl); (case hg => rfl); (case hr => first | (go_simp; done) | (go_simp; rfl)); (case hp => exact (Reps.one (show Kd.M (Kd.int .i64) _ _ _ 1 [.int .i64 1] from rfl) (Reps.one (show Kd.M (Kd.int .i64) _ _ _ 2 [.int .i64 2] from rfl) (Reps.none _ _)))); intro v121 w26 ho27 hb hg_ hnew_; clear hg_ hnew_; (first | rw [← Ny120.out] at ho27 | (simp only [Int.reduceToNat] at ho27; rw [← Ny120.out] at ho27)); have n0_ := Aside0.mk (Kd.R_lower ho27 (below_size (by repeat (first | (with_reducible first | exact HB.out | apply below_alloc | apply pw_below_drewN | apply below_drew1) | exact HB.out)))); have n1_ := Aside0.mk (below_step (by repeat (first | (with_reducible first | exact HB.out | apply below_alloc | apply pw_below_drewN | apply below_drew1) | exact HB.out)) hb); clear HB; have HO122 := n0_; have HB := n1_; clear n0_ n1_; clear hb ho27; obtain ⟨Ao28, co28, eo28⟩ := Kd.R_slice HO122.out; subst eo28) | ((with_reducible refine gate_callee (f := 10) rfl ?_); refine goesL_ (some 3) rfl rfl Tryd.func10 (by kernel_rfl) rfl #[.slice Ao28 y120.length co28] rfl (by (try simp only [List.map_toArray, List.map_cons, List.map_nil]); first | done | rfl | (simp only [List.length_drop, List.length_take]; rfl)) ?_; (with_reducible refine (bitmap_Of.calls _ _ y120 t123 _ ?side1 ?side2 A1.out).mono ?_); (case side1 => repeat (first | exact (Kd.R_reads' HO122.out).2.2 | (with_reducible refine Kd.C_alloc ?_ _) | (with_reducible refine Kd.C_drewN ?_ _) | (with_reducible refine Kd.C_drew ?_))); (case side2 => exact (Kd.R_reads' HO122.out).2.1); rintro e w29 ⟨rfl, hb⟩; refine ⟨_, rfl, ?_⟩; have n0_ := Aside0.mk (Kd.R_below (by (with_reducible repeat (first | apply Kd.R_alloc | apply Kd.R_drewN | apply Kd.R_drew)); exact HO122.out) hb); have n1_ := Aside0.mk (below_step (by repeat (first | (with_reducible first | exact HB.out | apply below_alloc | apply pw_below_drewN | apply below_drew1) | exact HB.out)) hb); clear HO122; clear HB; have HO122 := n0_; have HB := n1_; clear n0_ n1_; (try clear hb); (try clear hb2); (try clear hk); (try clear hi)) | ((with_reducible refine gate_callee (f := 42) rfl ?_); refine goesL_ (some 4) rfl rfl Tryd.func42 (by kernel_rfl) rfl #[.agg (Ag.agC .u64 65 t123), .int .i64 0, .int .i64 4] rfl (by (try simp only [List.map_toArray, List.map_cons, List.map_nil]); first | done | rfl | (simp only [List.length_drop, List.length_take]; rfl)) ?_; (with_reducible refine (bitmap_Runs.calls k t123 0 4 t124 _ A2.out).mono ?_); rintro e w30 ⟨v125, rfl, ho0, hb⟩; refine ⟨_, rfl, ?_⟩; have n0_ := Aside0.mk (Kd.R_below (by (with_reducible repeat (first | apply Kd.R_alloc | apply Kd.R_drewN | apply Kd.R_drew)); exact HO122.out) hb); have n1_ := Aside0.mk (Kd.V_lower (Kd.V_mono (ok' := fun k_ => some k_ ≠ (.slice Ao28 y120.length co28 : Value).ownBlock) ho0 (fun k_ hk_ => (Kd.fresh' (Kd.R_lt (by (with_reducible repeat (first | apply Kd.R_alloc | apply Kd.R_drewN | apply Kd.R_drew)); exact HO122.out)) k_ hk_))) (below_size (by repeat (first | (with_reducible first | exact HB.out | apply below_alloc | apply pw_below_drewN | apply below_drew1) | exact HB.out)))); have n2_ := Aside0.mk (below_step (by repeat (first | (with_reducible first | exact HB.out | apply below_alloc | apply pw_below_drewN | apply below_drew1) | exact HB.out)) hb); clear HO122; clear HB; have HO122 := n0_; have HO126 := n1_; have HB := n2_; clear n0_ n1_ n2_; (try clear hb); (try clear hb2); (try clear hk); (try clear hi); (try clear ho0); obtain ⟨Ao31, co31, eo31⟩ := Kd.V_slice HO126.out; subst eo31))
    go_ret
    exact ⟨by first | rfl | exact ne_empty _ | exact eq_empty _ | (simp [errW_none, errW_some] <;> rfl) | (simp [*, errW_none, errW_some] <;> rfl), by repeat (first | (with_reducible first | exact HB.out | apply below_alloc | apply pw_below_drewN | apply below_drew1) | exact HB.out)⟩
def spenceref01_In.l0 : Nat → Int → List Int → Int → Int → Option (Bool)
  | 0, _, _, _, _ => none
  | k + 1, x1, x7, x8, x9 => if x9 < x8 then (if 0 ≤ x9 then (if x9 < (x7.length : Int) then (if (rd x7 x9) = x1 then (some true) else (spenceref01_In.l0 k x1 x7 x8 (wrap64 (x9 + 1)))) else (none)) else (none)) else (some false)
def spenceref01_In.f (k : Nat) (l0 : List Int) (a1 : Int) : Option (Bool) := spenceref01_In.l0 k a1 l0 (l0.length : Int) 0
theorem spenceref01_In.mono_l : ∀ k, (∀ y0 y1 y2 y3, LeO (spenceref01_In.l0 k y0 y1 y2 y3) (spenceref01_In.l0 (k + 1) y0 y1 y2 y3))
  | 0 => fun _ _ _ _ r h => by simp [spenceref01_In.l0] at h
  | k + 1 => by
    have ih0 := spenceref01_In.mono_l k
    · intro y0 y1 y2 y3
      unfold spenceref01_In.l0
      repeat' first
      | (with_reducible exact ih0 _ _ _ _)
      | (with_reducible exact LeO.refl _)
      | (with_reducible exact LeO.none _)
      | (with_reducible refine LeO.ite ?_ ?_)
      | (with_reducible refine LeO.bind ?_ (fun _ => ?_))
      | exact ih0 _ _ _ _
      | exact LeO.none _
      | refine LeO.ite ?_ ?_
      | refine LeO.bind ?_ (fun _ => ?_)
theorem spenceref01_In.mono : ∀ a0 a1 k, LeO (spenceref01_In.f k a0 a1) (spenceref01_In.f (k + 1) a0 a1) := by
  intro a0 a1 k
  have ih0 := spenceref01_In.mono_l k
  unfold spenceref01_In.f
  repeat' first
      | (with_reducible exact ih0 _ _ _ _)
      | (with_reducible exact LeO.refl _)
      | (with_reducible exact LeO.none _)
      | (with_reducible refine LeO.ite ?_ ?_)
      | (with_reducible refine LeO.bind ?_ (fun _ => ?_))
      | exact ih0 _ _ _ _
      | exact LeO.none _
      | refine LeO.ite ?_ ?_
      | refine LeO.bind ?_ (fun _ => ?_)
set_option maxHeartbeats 8000000 in
set_option maxRecDepth 100000 in
theorem spenceref01_In.calls (k : Nat) (A0 : Option Addr) (c0 : Nat) (l0 : List Int) (a1 : Int) (r : Bool) (w : World) (hr0 : Kd.C (Kd.int .i64) w A0 l0.length l0) (hc0 : l0.length ≤ c0) (h : spenceref01_In.f k l0 a1 = some r) :
    Calls Tryd.prog 13 #[.slice A0 l0.length c0, .int .i64 a1] w fun e w' => e = .returned (.bool r) ∧ Drawn0 w w' := by
  have HR0 := Aside0.mk hr0
  have HC0 := Aside0.mk hc0
  clear hr0 hc0
  have H : (spenceref01_In.l0 k a1 l0 (l0.length : Int) 0) = some r := h
  clear h
  have H' := Aside0.mk H
  clear H
  go_enter Tryd.func13, Tryd.ntmps13
  go_wp2
  go_loopg [9] k (fun kq v9 w' => ∃ (x9_1 : Int), v9 = .int .i64 x9_1 ∧ Aside0 (spenceref01_In.l0 kq a1 l0 (l0.length : Int) x9_1 = some r) ∧ Aside0 (kq ≤ k) ∧ Drawn0 w w')
  case atStart => exact ⟨(0), (by first | rfl | (simp; done) | (simp [*]; done)), H', ⟨Nat.le_refl _⟩, by repeat (first | exact Drawn0.refl _ | apply Drawn0.step)⟩
  case round =>
    clear H'
    try clear c1
    try clear p2
    obtain ⟨x9_1, rfl, HA, HK1, ⟨m1, rfl⟩⟩ := hrel
    cases gk with
    | zero => exact absurd HA.out (by simp [spenceref01_In.l0])
    | succ k1 =>
      have H := HA.out
      clear HA
      simp only [spenceref01_In.l0] at H
      by_cases c3 : x9_1 < (l0.length : Int)
      · rw [if_pos c3] at H
        have c3b0 : decide (x9_1 < (l0.length : Int)) = true := decide_eq_true c3
        clear c3
        by_cases c4 : 0 ≤ x9_1
        · rw [if_pos c4] at H
          have c4b0 : decide (0 ≤ x9_1) = true := decide_eq_true c4
          clear c4
          by_cases c5 : x9_1 < (l0.length : Int)
          · rw [if_pos c5] at H
            have c5b0 : decide (x9_1 < (l0.length : Int)) = true := decide_eq_true c5
            clear c5
            by_cases c6 : (rd l0 x9_1) = a1
            · rw [if_pos c6] at H
              have c6b0 : ((rd l0 x9_1) == a1) = true := beq_iff_eq.mpr c6
              have c6b1 : ((rd l0 x9_1) != a1) = false := bne_eq_false_iff_eq.mpr c6
              clear c6
              obtain rfl := Option.some.inj H
              have p130 : 0 ≤ (x9_1 : Int) := of_decide_eq_true (by first | (with_reducible assumption) | assumption)
              have q130 : x9_1 < (l0.length : Int) := of_decide_eq_true (by first | (with_reducible assumption) | assumption)
              obtain ⟨ad130, e130, hx130_0⟩ := Kd.at_int HR0.out x9_1 p130 q130
              cases e130
              replace p130 := eq_true p130
              replace q130 := eq_true q130
              go_wp2
              go_ret
              exact ⟨by first | rfl | (simp; done) | (simp [*]; done) | exact ne_empty _ | exact eq_empty _, by repeat (first | exact Drawn0.refl _ | apply Drawn0.step)⟩
            · rw [if_neg c6] at H
              have c6b0 : ((rd l0 x9_1) == a1) = false := beq_eq_false_iff_ne.mpr c6
              have c6b1 : ((rd l0 x9_1) != a1) = true := bne_iff_ne.mpr c6
              have H' := Aside0.mk H
              clear H
              have p130 : 0 ≤ (x9_1 : Int) := of_decide_eq_true (by first | (with_reducible assumption) | assumption)
              have q130 : x9_1 < (l0.length : Int) := of_decide_eq_true (by first | (with_reducible assumption) | assumption)
              obtain ⟨ad130, e130, hx130_0⟩ := Kd.at_int HR0.out x9_1 p130 q130
              cases e130
              replace p130 := eq_true p130
              replace q130 := eq_true q130
              go_wp2
              go_roundg k1
              case measure => have := HK1.out; omega
              case rel => exact ⟨(wrap64 (x9_1 + 1)), (by first | rfl | (simp; done) | (simp [*]; done)), H', ⟨by have := HK1.out; omega⟩, by repeat (first | exact Drawn0.refl _ | apply Drawn0.step)⟩
          · rw [if_neg c5] at H
            exact absurd H (by simp)
        · rw [if_neg c4] at H
          exact absurd H (by simp)
      · rw [if_neg c3] at H
        have c3b0 : decide (x9_1 < (l0.length : Int)) = false := decide_eq_false c3
        clear c3
        obtain rfl := Option.some.inj H
        go_wp2
        go_ret
        exact ⟨by first | rfl | (simp; done) | (simp [*]; done) | exact ne_empty _ | exact eq_empty _, by repeat (first | exact Drawn0.refl _ | apply Drawn0.step)⟩
end Go.Proofs.YtcnlmpjoghogbaaDoor.PAll
namespace Go.Proofs.YtcnlmpjoghogbaaDoor.PAll
open Go.RowKit Go.Proofs.YtcnlmpjoghogbaaDoor.Xw Go.Proofs.YtcnlmpjoghogbaaDoorW.PrintWords Go.Proofs.YtcnlmpjoghogbaaDoorW.PrintLast Go.Proofs.YtcnlmpjoghogbaaDoorW.PrintMore
attribute [local go_sem] max2_int min2_int max_two min_two max_three min_three max_four min_four   -- for this text's walks alone
set_option linter.unusedVariables false
set_option linter.unusedSimpArgs false
mutual
def spenceref24_Sorted.l0 : Nat → List Int → List Int → Int → Option (List Int)
  | 0, _, _, _ => none
  | k + 1, x0, x3, x4 => if x4 ≤ 4096 then (spenceref24_Sorted.j1 k x0 x3 x4 (decide ((x3.length : Int) < (x0.length : Int)))) else (spenceref24_Sorted.j1 k x0 x3 x4 false)
def spenceref24_Sorted.j1 : Nat → List Int → List Int → Int → Bool → Option (List Int)
  | 0, _, _, _, _ => none
  | k + 1, x0, x3, x4, x13 => if x13 = true then ((spenceref01_In.f k x0 x4).bind fun t131 => (if t131 = true then (if x3.length < 17592186044416 then (spenceref24_Sorted.l0 k x0 (x3 ++ [x4]) (wrap64 (x4 + 1))) else (none)) else (spenceref24_Sorted.l0 k x0 x3 (wrap64 (x4 + 1))))) else (some x3)
end
def spenceref24_Sorted.f (k : Nat) (l0 : List Int) : Option (List Int) := spenceref24_Sorted.l0 k l0 ([] : List Int) 0
theorem spenceref24_Sorted.mono_l : ∀ k, (∀ y0 y1 y2, LeO (spenceref24_Sorted.l0 k y0 y1 y2) (spenceref24_Sorted.l0 (k + 1) y0 y1 y2)) ∧ (∀ y0 y1 y2 y3, LeO (spenceref24_Sorted.j1 k y0 y1 y2 y3) (spenceref24_Sorted.j1 (k + 1) y0 y1 y2 y3))
  | 0 => ⟨fun _ _ _ r h => by simp [spenceref24_Sorted.l0] at h, fun _ _ _ _ r h => by simp [spenceref24_Sorted.j1] at h⟩
  | k + 1 => by
    obtain ⟨ih0, ih1⟩ := spenceref24_Sorted.mono_l k
    refine ⟨?_, ?_⟩
    · intro y0 y1 y2
      unfold spenceref24_Sorted.l0
      repeat' first
      | (with_reducible exact ih0 _ _ _)
      | (with_reducible exact ih1 _ _ _ _)
      | (with_reducible exact spenceref01_In.mono _ _ _)
      | (with_reducible exact LeO.refl _)
      | (with_reducible exact LeO.none _)
      | (with_reducible refine LeO.ite ?_ ?_)
      | (with_reducible refine LeO.bind ?_ (fun _ => ?_))
      | exact ih0 _ _ _
      | exact ih1 _ _ _ _
      | exact spenceref01_In.mono _ _ _
      | exact LeO.none _
      | refine LeO.ite ?_ ?_
      | refine LeO.bind ?_ (fun _ => ?_)
    · intro y0 y1 y2 y3
      unfold spenceref24_Sorted.j1
      repeat' first
      | (with_reducible exact ih0 _ _ _)
      | (with_reducible exact ih1 _ _ _ _)
      | (with_reducible exact spenceref01_In.mono _ _ _)
      | (with_reducible exact LeO.refl _)
      | (with_reducible exact LeO.none _)
      | (with_reducible refine LeO.ite ?_ ?_)
      | (with_reducible refine LeO.bind ?_ (fun _ => ?_))
      | exact ih0 _ _ _
      | exact ih1 _ _ _ _
      | exact spenceref01_In.mono _ _ _
      | exact LeO.none _
      | refine LeO.ite ?_ ?_
      | refine LeO.bind ?_ (fun _ => ?_)
theorem spenceref24_Sorted.mono : ∀ a0 k, LeO (spenceref24_Sorted.f k a0) (spenceref24_Sorted.f (k + 1) a0) := by
  intro a0 k
  obtain ⟨ih0, ih1⟩ := spenceref24_Sorted.mono_l k
  unfold spenceref24_Sorted.f
  repeat' first
      | (with_reducible exact ih0 _ _ _)
      | (with_reducible exact ih1 _ _ _ _)
      | (with_reducible exact spenceref01_In.mono _ _ _)
      | (with_reducible exact LeO.refl _)
      | (with_reducible exact LeO.none _)
      | (with_reducible refine LeO.ite ?_ ?_)
      | (with_reducible refine LeO.bind ?_ (fun _ => ?_))
      | exact ih0 _ _ _
      | exact ih1 _ _ _ _
      | exact spenceref01_In.mono _ _ _
      | exact LeO.none _
      | refine LeO.ite ?_ ?_
      | refine LeO.bind ?_ (fun _ => ?_)
set_option maxHeartbeats 8000000 in
set_option maxRecDepth 100000 in
theorem spenceref24_Sorted.calls (k : Nat) (A0 : Option Addr) (c0 : Nat) (l0 : List Int) (r : List Int) (w : World) (hr0 : Kd.C (Kd.int .i64) w A0 l0.length l0) (hc0 : l0.length ≤ c0) (h : spenceref24_Sorted.f k l0 = some r) :
    Calls Tryd.prog 11 #[.slice A0 l0.length c0] w fun e w' => ∃ v0_ : Value, e = .returned (v0_) ∧ Kd.R (Kd.int .i64) 3 w' w.heap.size (fun _ => True) v0_ r ∧ Below w.heap.size w w' := by
  have HR0 := Aside0.mk hr0
  have HC0 := Aside0.mk hc0
  clear hr0 hc0
  have HB := Aside0.mk (Below.refl w.heap.size w)
  have H : (spenceref24_Sorted.l0 k l0 ([] : List Int) 0) = some r := h
  clear h
  have H' := Aside0.mk H
  clear H
  go_enter Tryd.func11, Tryd.ntmps11
  go_wp2
  go_loopg [3, 4] k (fun kq v3 v4 w' => ∃ (x3_1 : List Int) (x4_1 : Int), v4 = .int .i64 x4_1 ∧ Aside0 (spenceref24_Sorted.l0 kq l0 x3_1 x4_1 = some r) ∧ Aside0 (kq ≤ k) ∧ Aside0 (Kd.R (Kd.int .i64) 3 w' w.heap.size (fun _ => True) v3 x3_1) ∧ Aside0 (Below w.heap.size w w'))
  case atStart => exact ⟨(([] : List Int)), (0), (by first | rfl | (simp; done) | (simp [*]; done)), H', ⟨Nat.le_refl _⟩, ⟨by first | exact Kd.R_nil _ _ _ _ _ | exact Kd.N_nil _ _ _ _ _ | exact Kd.V_nil _ _ _ _ _ | exact Kd.Q_nil _ _ _ _ _ | exact Kd.S_nil _ _ _ _ _⟩, ⟨by repeat (first | (with_reducible first | exact HB.out | apply below_alloc | apply pw_below_drewN | apply below_drew1) | exact HB.out)⟩⟩
  case round =>
    clear H'
    try clear c1
    obtain ⟨x3_1, x4_1, rfl, HA, HK1, HO_3, HB⟩ := hrel
    cases gk with
    | zero => exact absurd HA.out (by simp [spenceref24_Sorted.l0])
    | succ k1 =>
      have H := HA.out
      clear HA
      simp only [spenceref24_Sorted.l0] at H
      have HC2 := Aside0.mk H
      clear H
      go_upto_region 3 with (fail)
      go_cut [13] (fun v13 wc => ∃ (kq : Nat) (x13_1 : Bool), v13 = .bool x13_1 ∧ Aside0 (spenceref24_Sorted.j1 kq l0 x3_1 x4_1 x13_1 = some r) ∧ Aside0 (kq ≤ k1) ∧ Aside0 (Kd.R (Kd.int .i64) 3 wc w.heap.size (fun _ => True) u3 x3_1) ∧ Aside0 (Below w.heap.size w wc))
      case first =>
        have H := HC2.out
        clear HC2
        by_cases c3 : x4_1 ≤ 4096
        · rw [if_pos c3] at H
          have c3b0 : decide (x4_1 ≤ 4096) = true := decide_eq_true c3
          clear c3
          (first | rw [c3b0] | (simp only [i64_w, i32_w]; rw [c3b0]) | skip)
          have H' := Aside0.mk H
          clear H
          obtain ⟨Ao4, co4, eo4⟩ := Kd.R_slice HO_3.out
          subst eo4
          go_wp2
          go_meet
          case rel => exact ⟨_, (decide ((x3_1.length : Int) < (l0.length : Int))), (by first | rfl | (simp; done) | (simp [*]; done)), H', ⟨by have := HK1.out; first | omega | exact Nat.le_refl _⟩, ⟨by (with_reducible repeat (first | apply Kd.R_alloc | apply Kd.R_drewN | apply Kd.R_drew)); exact HO_3.out⟩, ⟨by repeat (first | (with_reducible first | exact HB.out | apply below_alloc | apply pw_below_drewN | apply below_drew1) | exact HB.out)⟩⟩
        · rw [if_neg c3] at H
          have c3b0 : decide (x4_1 ≤ 4096) = false := decide_eq_false c3
          clear c3
          (first | rw [c3b0] | (simp only [i64_w, i32_w]; rw [c3b0]) | skip)
          have H' := Aside0.mk H
          clear H
          go_wp2
          go_meet
          case rel => exact ⟨_, (false), (by first | rfl | (simp; done) | (simp [*]; done)), H', ⟨by have := HK1.out; first | omega | exact Nat.le_refl _⟩, ⟨by (with_reducible repeat (first | apply Kd.R_alloc | apply Kd.R_drewN | apply Kd.R_drew)); exact HO_3.out⟩, ⟨by repeat (first | (with_reducible first | exact HB.out | apply below_alloc | apply pw_below_drewN | apply below_drew1) | exact HB.out)⟩⟩
      case rest =>
        clear HC2
        try clear c1
        try clear p2
        try clear c3
        try clear c3b0
        obtain ⟨kq, x13_1, rfl, HA, HJ1, HO_3, HB⟩ := hcut
        cases kq with
        | zero => exact absurd HA.out (by simp [spenceref24_Sorted.j1])
        | succ kj1 =>
          have H := HA.out
          clear HA
          simp only [spenceref24_Sorted.j1] at H
          by_cases c5 : x13_1 = true
          · subst c5
            have H1 : ((spenceref01_In.f kj1 l0 x4_1).bind fun t131 => (if t131 = true then (if x3_1.length < 17592186044416 then (spenceref24_Sorted.l0 kj1 l0 (x3_1 ++ [x4_1]) (wrap64 (x4_1 + 1))) else (none)) else (spenceref24_Sorted.l0 kj1 l0 x3_1 (wrap64 (x4_1 + 1))))) = some r := by rw [if_pos rfl] at H; exact H
            clear H
            have H := H1
            clear H1
            replace H := Option.bind_eq_some_iff.mp H
            obtain ⟨t131, A60, H⟩ := H
            replace H : (if t131 = true then (if x3_1.length < 17592186044416 then (spenceref24_Sorted.l0 kj1 l0 (x3_1 ++ [x4_1]) (wrap64 (x4_1 + 1))) else (none)) else (spenceref24_Sorted.l0 kj1 l0 x3_1 (wrap64 (x4_1 + 1)))) = some r := H
            have A6 := Aside0.mk A60
            clear A60
            by_cases c7 : t131 = true
            · subst c7
              have H1 : (if x3_1.length < 17592186044416 then (spenceref24_Sorted.l0 kj1 l0 (x3_1 ++ [x4_1]) (wrap64 (x4_1 + 1))) else (none)) = some r := by rw [if_pos rfl] at H; exact H
              clear H
              have H := H1
              clear H1
              by_cases c8 : x3_1.length < 17592186044416
              · rw [if_pos c8] at H
                have LMc8 := Aside0.mk c8
                clear c8
                obtain ⟨y132, hy132⟩ : ∃ y_ : List Int, y_ = (x3_1 ++ [x4_1]) := ⟨_, rfl⟩
                replace H : (spenceref24_Sorted.l0 kj1 l0 y132 (wrap64 (x4_1 + 1))) = some r := by first | (rw [hy132]; with_reducible exact H) | (have H2_ := (Option.bind_some _ _).symm.trans H; rw [hy132]; with_reducible exact H2_) | (have H2_ := (Option.bind_some _ _).symm.trans H; with_reducible exact H2_) | with_reducible exact H | (rw [hy132]; exact H) | exact H
                have Ny132 := Aside0.mk hy132
                clear hy132
                have H' := Aside0.mk H
                clear H
                go_wp2_with (first | ((with_reducible refine gate_callee (f := 13) rfl ?_); refine goesL_ (some 18) rfl rfl Tryd.func13 (by kernel_rfl) rfl #[.slice A0 l0.length c0, .int .i64 x4_1] rfl (by (try simp only [List.map_toArray, List.map_cons, List.map_nil]); first | done | rfl | (simp only [List.length_drop, List.length_take]; rfl)) ?_; (with_reducible refine (spenceref01_In.calls kj1 _ _ l0 x4_1 true _ ?side1 ?side2 A6.out).mono ?_); (case side1 => repeat (first | exact (Kd.C_below HR0.out HB.out) | (with_reducible refine Kd.C_alloc ?_ _) | (with_reducible refine Kd.C_drewN ?_ _) | (with_reducible refine Kd.C_drew ?_))); (case side2 => exact HC0.out); rintro e w' ⟨rfl, ⟨nd, rfl⟩⟩; refine ⟨_, rfl, ?_⟩) | ((with_reducible refine gate_builtin (b := .append) (xs := #[.tmp 19, .tmp 21]) rfl ?_); (try (refine gate_guard (by rfl) ?_; dsimp only)); at_builtin; refine Kd.R_append (Kd.int .i64) (w0 := w) w.heap.size rfl (.tmp 19) (.tmp 21) 22 3 (.int .i64 0) 8 rfl Tryd.underlying22 info3 rfl (by decide) (by omega) u3 x3_1 x4_1 [.int .i64 x4_1] (fun _ => True) (fun _ => False) rfl rfl ?aP (fun _ hk => hk.elim) ?aF ?aO ?aB ?aS ?aL ?_; (case aP => exact rfl); (case aB => exact (by repeat (first | (with_reducible first | exact HB.out | apply below_alloc | apply pw_below_drewN | apply below_drew1) | exact HB.out))); (case aF => exact (fun _ _ => trivial)); (case aO => exact (by (with_reducible repeat (first | apply Kd.R_alloc | apply Kd.R_drewN | apply Kd.R_drew)); exact HO_3.out)); (case aS => exact (below_size (by repeat (first | (with_reducible first | exact HB.out | apply below_alloc | apply pw_below_drewN | apply below_drew1) | exact HB.out)))); (case aL => have := LMc8.out; omega); intro v133 w9 ho hb hg hat; rw [← Ny132.out] at ho; have n0_ := Aside0.mk (hb); have n1_ := Aside0.mk (ho); clear HB; clear HO_3; have HB := n0_; have HO134 := n1_; clear n0_ n1_; clear ho hb hg hat))
                go_roundg kj1
                case measure => have := HK1.out; have := HJ1.out; omega
                case rel => exact ⟨(y132), (wrap64 (x4_1 + 1)), (by first | rfl | (simp; done) | (simp [*]; done)), H', ⟨by have := HK1.out; have := HJ1.out; omega⟩, ⟨by (with_reducible repeat (first | apply Kd.R_alloc | apply Kd.R_drewN | apply Kd.R_drew)); exact HO134.out⟩, ⟨by repeat (first | (with_reducible first | exact HB.out | apply below_alloc | apply pw_below_drewN | apply below_drew1) | exact HB.out)⟩⟩
              · rw [if_neg c8] at H
                exact absurd H (by simp)
            · replace c7 := Bool.eq_false_iff.mpr c7
              subst c7
              have H1 : (spenceref24_Sorted.l0 kj1 l0 x3_1 (wrap64 (x4_1 + 1))) = some r := by rw [if_neg (show ¬ (false = true) by decide)] at H; exact H
              clear H
              have H := H1
              clear H1
              have H' := Aside0.mk H
              clear H
              go_wp2_with (first | ((with_reducible refine gate_callee (f := 13) rfl ?_); refine goesL_ (some 18) rfl rfl Tryd.func13 (by kernel_rfl) rfl #[.slice A0 l0.length c0, .int .i64 x4_1] rfl (by (try simp only [List.map_toArray, List.map_cons, List.map_nil]); first | done | rfl | (simp only [List.length_drop, List.length_take]; rfl)) ?_; (with_reducible refine (spenceref01_In.calls kj1 _ _ l0 x4_1 false _ ?side1 ?side2 A6.out).mono ?_); (case side1 => repeat (first | exact (Kd.C_below HR0.out HB.out) | (with_reducible refine Kd.C_alloc ?_ _) | (with_reducible refine Kd.C_drewN ?_ _) | (with_reducible refine Kd.C_drew ?_))); (case side2 => exact HC0.out); rintro e w' ⟨rfl, ⟨nd, rfl⟩⟩; refine ⟨_, rfl, ?_⟩))
              go_roundg kj1
              case measure => have := HK1.out; have := HJ1.out; omega
              case rel => exact ⟨(x3_1), (wrap64 (x4_1 + 1)), (by first | rfl | (simp; done) | (simp [*]; done)), H', ⟨by have := HK1.out; have := HJ1.out; omega⟩, ⟨by (with_reducible repeat (first | apply Kd.R_alloc | apply Kd.R_drewN | apply Kd.R_drew)); exact HO_3.out⟩, ⟨by repeat (first | (with_reducible first | exact HB.out | apply below_alloc | apply pw_below_drewN | apply below_drew1) | exact HB.out)⟩⟩
          · replace c5 := Bool.eq_false_iff.mpr c5
            subst c5
            have H1 : (some x3_1) = some r := by rw [if_neg (show ¬ (false = true) by decide)] at H; exact H
            clear H
            have H := H1
            clear H1
            obtain rfl := Option.some.inj H
            go_wp2
            go_ret
            exact ⟨_, by first | rfl | (simp [errW_none, errW_some] <;> rfl) | (simp [*, errW_none, errW_some] <;> rfl), by (with_reducible repeat (first | apply Kd.R_alloc | apply Kd.R_drewN | apply Kd.R_drew)); exact HO_3.out, by repeat (first | (with_reducible first | exact HB.out | apply below_alloc | apply pw_below_drewN | apply below_drew1) | exact HB.out)⟩
def spenceref01_Ints.l0 : Nat → List Int → List Int → Int → Int → Option (Bool)
  | 0, _, _, _, _ => none
  | k + 1, x0, x1, x12, x13 => if x13 < x12 then (if 0 ≤ x13 then (if x13 < (x0.length : Int) then (if x13 < (x1.length : Int) then (if (rd x0 x13) = (rd x1 x13) then (spenceref01_Ints.l0 k x0 x1 x12 (wrap64 (x13 + 1))) else (some false)) else (none)) else (none)) else (none)) else (some true)
def spenceref01_Ints.f (k : Nat) (l0 : List Int) (l1 : List Int) : Option (Bool) := if (l0.length : Int) = (l1.length : Int) then (spenceref01_Ints.l0 k l0 l1 (l0.length : Int) 0) else (some false)
theorem spenceref01_Ints.mono_l : ∀ k, (∀ y0 y1 y2 y3, LeO (spenceref01_Ints.l0 k y0 y1 y2 y3) (spenceref01_Ints.l0 (k + 1) y0 y1 y2 y3))
  | 0 => fun _ _ _ _ r h => by simp [spenceref01_Ints.l0] at h
  | k + 1 => by
    have ih0 := spenceref01_Ints.mono_l k
    · intro y0 y1 y2 y3
      unfold spenceref01_Ints.l0
      repeat' first
      | (with_reducible exact ih0 _ _ _ _)
      | (with_reducible exact LeO.refl _)
      | (with_reducible exact LeO.none _)
      | (with_reducible refine LeO.ite ?_ ?_)
      | (with_reducible refine LeO.bind ?_ (fun _ => ?_))
      | exact ih0 _ _ _ _
      | exact LeO.none _
      | refine LeO.ite ?_ ?_
      | refine LeO.bind ?_ (fun _ => ?_)
theorem spenceref01_Ints.mono : ∀ a0 a1 k, LeO (spenceref01_Ints.f k a0 a1) (spenceref01_Ints.f (k + 1) a0 a1) := by
  intro a0 a1 k
  have ih0 := spenceref01_Ints.mono_l k
  unfold spenceref01_Ints.f
  repeat' first
      | (with_reducible exact ih0 _ _ _ _)
      | (with_reducible exact LeO.refl _)
      | (with_reducible exact LeO.none _)
      | (with_reducible refine LeO.ite ?_ ?_)
      | (with_reducible refine LeO.bind ?_ (fun _ => ?_))
      | exact ih0 _ _ _ _
      | exact LeO.none _
      | refine LeO.ite ?_ ?_
      | refine LeO.bind ?_ (fun _ => ?_)
set_option maxHeartbeats 8000000 in
set_option maxRecDepth 100000 in
theorem spenceref01_Ints.calls (k : Nat) (A0 : Option Addr) (c0 : Nat) (l0 : List Int) (A1 : Option Addr) (c1 : Nat) (l1 : List Int) (r : Bool) (w : World) (hr0 : Kd.C (Kd.int .i64) w A0 l0.length l0) (hc0 : l0.length ≤ c0) (hr1 : Kd.C (Kd.int .i64) w A1 l1.length l1) (hc1 : l1.length ≤ c1) (h : spenceref01_Ints.f k l0 l1 = some r) :
    Calls Tryd.prog 14 #[.slice A0 l0.length c0, .slice A1 l1.length c1] w fun e w' => e = .returned (.bool r) ∧ Drawn0 w w' := by
  have HR0 := Aside0.mk hr0
  have HC0 := Aside0.mk hc0
  clear hr0 hc0
  have HR1 := Aside0.mk hr1
  have HC1 := Aside0.mk hc1
  clear hr1 hc1
  have H : (if (l0.length : Int) = (l1.length : Int) then (spenceref01_Ints.l0 k l0 l1 (l0.length : Int) 0) else (some false)) = some r := h
  clear h
  by_cases c3 : (l0.length : Int) = (l1.length : Int)
  · rw [if_pos c3] at H
    have c3b0 : ((l0.length : Int) == (l1.length : Int)) = true := beq_iff_eq.mpr c3
    have c3b1 : ((l0.length : Int) != (l1.length : Int)) = false := bne_eq_false_iff_eq.mpr c3
    have c3b2 : (l0.length == l1.length) = true := by first | simpa using c3 | (simp at c3 ⊢; omega)
    clear c3
    have H' := Aside0.mk H
    clear H
    go_enter Tryd.func14, Tryd.ntmps14
    go_wp2
    repeat (go_quiet (fail); try go_wp2)
    go_loopg [13] k (fun kq v13 w' => ∃ (x13_1 : Int), v13 = .int .i64 x13_1 ∧ Aside0 (spenceref01_Ints.l0 kq l0 l1 (l0.length : Int) x13_1 = some r) ∧ Aside0 (kq ≤ k) ∧ Drawn0 w w')
    case atStart => exact ⟨(0), (by first | rfl | (simp; done) | (simp [*]; done)), H', ⟨Nat.le_refl _⟩, by repeat (first | exact Drawn0.refl _ | apply Drawn0.step)⟩
    case round =>
      clear H'
      try clear c1
      try clear p2
      try clear c3
      try clear c3b0
      try clear c3b1
      try clear c3b2
      obtain ⟨x13_1, rfl, HA, HK1, ⟨m1, rfl⟩⟩ := hrel
      cases gk with
      | zero => exact absurd HA.out (by simp [spenceref01_Ints.l0])
      | succ k1 =>
        have H := HA.out
        clear HA
        simp only [spenceref01_Ints.l0] at H
        by_cases c4 : x13_1 < (l0.length : Int)
        · rw [if_pos c4] at H
          have c4b0 : decide (x13_1 < (l0.length : Int)) = true := decide_eq_true c4
          clear c4
          by_cases c5 : 0 ≤ x13_1
          · rw [if_pos c5] at H
            have c5b0 : decide (0 ≤ x13_1) = true := decide_eq_true c5
            clear c5
            by_cases c6 : x13_1 < (l0.length : Int)
            · rw [if_pos c6] at H
              have c6b0 : decide (x13_1 < (l0.length : Int)) = true := decide_eq_true c6
              clear c6
              by_cases c7 : x13_1 < (l1.length : Int)
              · rw [if_pos c7] at H
                have c7b0 : decide (x13_1 < (l1.length : Int)) = true := decide_eq_true c7
                clear c7
                by_cases c8 : (rd l0 x13_1) = (rd l1 x13_1)
                · rw [if_pos c8] at H
                  have c8b0 : ((rd l0 x13_1) == (rd l1 x13_1)) = true := beq_iff_eq.mpr c8
                  have c8b1 : ((rd l0 x13_1) != (rd l1 x13_1)) = false := bne_eq_false_iff_eq.mpr c8
                  clear c8
                  have H' := Aside0.mk H
                  clear H
                  have p136 : 0 ≤ (x13_1 : Int) := of_decide_eq_true (by first | (with_reducible assumption) | assumption)
                  have q136 : x13_1 < (l0.length : Int) := of_decide_eq_true (by first | (with_reducible assumption) | assumption)
                  obtain ⟨ad136, e136, hx136_0⟩ := Kd.at_int HR0.out x13_1 p136 q136
                  cases e136
                  replace p136 := eq_true p136
                  replace q136 := eq_true q136
                  have p137 : 0 ≤ (x13_1 : Int) := of_decide_eq_true (by first | (with_reducible assumption) | assumption)
                  have q137 : x13_1 < (l1.length : Int) := of_decide_eq_true (by first | (with_reducible assumption) | assumption)
                  obtain ⟨ad137, e137, hx137_0⟩ := Kd.at_int HR1.out x13_1 p137 q137
                  cases e137
                  replace p137 := eq_true p137
                  replace q137 := eq_true q137
                  go_wp2
                  repeat (go_quiet (fail); try go_wp2)
                  go_roundg k1
                  case measure => have := HK1.out; omega
                  case rel => exact ⟨(wrap64 (x13_1 + 1)), (by first | rfl | (simp; done) | (simp [*]; done)), H', ⟨by have := HK1.out; omega⟩, by repeat (first | exact Drawn0.refl _ | apply Drawn0.step)⟩
                · rw [if_neg c8] at H
                  have c8b0 : ((rd l0 x13_1) == (rd l1 x13_1)) = false := beq_eq_false_iff_ne.mpr c8
                  have c8b1 : ((rd l0 x13_1) != (rd l1 x13_1)) = true := bne_iff_ne.mpr c8
                  obtain rfl := Option.some.inj H
                  have p136 : 0 ≤ (x13_1 : Int) := of_decide_eq_true (by first | (with_reducible assumption) | assumption)
                  have q136 : x13_1 < (l0.length : Int) := of_decide_eq_true (by first | (with_reducible assumption) | assumption)
                  obtain ⟨ad136, e136, hx136_0⟩ := Kd.at_int HR0.out x13_1 p136 q136
                  cases e136
                  replace p136 := eq_true p136
                  replace q136 := eq_true q136
                  have p137 : 0 ≤ (x13_1 : Int) := of_decide_eq_true (by first | (with_reducible assumption) | assumption)
                  have q137 : x13_1 < (l1.length : Int) := of_decide_eq_true (by first | (with_reducible assumption) | assumption)
                  obtain ⟨ad137, e137, hx137_0⟩ := Kd.at_int HR1.out x13_1 p137 q137
                  cases e137
                  replace p137 := eq_true p137
                  replace q137 := eq_true q137
                  go_wp2
                  repeat (go_quiet (fail); try go_wp2)
                  go_ret
                  exact ⟨by first | rfl | (simp; done) | (simp [*]; done) | exact ne_empty _ | exact eq_empty _, by repeat (first | exact Drawn0.refl _ | apply Drawn0.step)⟩
              · rw [if_neg c7] at H
                exact absurd H (by simp)
            · rw [if_neg c6] at H
              exact absurd H (by simp)
          · rw [if_neg c5] at H
            exact absurd H (by simp)
        · rw [if_neg c4] at H
          have c4b0 : decide (x13_1 < (l0.length : Int)) = false := decide_eq_false c4
          clear c4
          obtain rfl := Option.some.inj H
          go_wp2
          repeat (go_quiet (fail); try go_wp2)
          go_ret
          exact ⟨by first | rfl | (simp; done) | (simp [*]; done) | exact ne_empty _ | exact eq_empty _, by repeat (first | exact Drawn0.refl _ | apply Drawn0.step)⟩
  · rw [if_neg c3] at H
    have c3b0 : ((l0.length : Int) == (l1.length : Int)) = false := beq_eq_false_iff_ne.mpr c3
    have c3b1 : ((l0.length : Int) != (l1.length : Int)) = true := bne_iff_ne.mpr c3
    have c3b2 : (l0.length == l1.length) = false := by first | simpa using c3 | (simp at c3 ⊢; omega)
    obtain rfl := Option.some.inj H
    go_enter Tryd.func14, Tryd.ntmps14
    go_wp2
    repeat (go_quiet (fail); try go_wp2)
    go_ret
    exact ⟨by first | rfl | (simp; done) | (simp [*]; done) | exact ne_empty _ | exact eq_empty _, by repeat (first | exact Drawn0.refl _ | apply Drawn0.step)⟩
def bits_OnesCount64.f (a0 : Int) : Option (Int) := some (Go.bits .and .i64 (wrap64 (IntKind.u64.wrap ((IntKind.u64.wrap ((IntKind.u64.wrap ((Go.bits .and .u64 (IntKind.u64.wrap (((IntKind.u64.wrap ((Go.bits .and .u64 ((IntKind.u64.wrap ((Go.bits .and .u64 (a0 / 2) 6148914691236517205) + (Go.bits .and .u64 a0 6148914691236517205))) / 4) 3689348814741910323) + (Go.bits .and .u64 (IntKind.u64.wrap ((Go.bits .and .u64 (a0 / 2) 6148914691236517205) + (Go.bits .and .u64 a0 6148914691236517205))) 3689348814741910323))) / 16) + (IntKind.u64.wrap ((Go.bits .and .u64 ((IntKind.u64.wrap ((Go.bits .and .u64 (a0 / 2) 6148914691236517205) + (Go.bits .and .u64 a0 6148914691236517205))) / 4) 3689348814741910323) + (Go.bits .and .u64 (IntKind.u64.wrap ((Go.bits .and .u64 (a0 / 2) 6148914691236517205) + (Go.bits .and .u64 a0 6148914691236517205))) 3689348814741910323))))) 1085102592571150095) + ((Go.bits .and .u64 (IntKind.u64.wrap (((IntKind.u64.wrap ((Go.bits .and .u64 ((IntKind.u64.wrap ((Go.bits .and .u64 (a0 / 2) 6148914691236517205) + (Go.bits .and .u64 a0 6148914691236517205))) / 4) 3689348814741910323) + (Go.bits .and .u64 (IntKind.u64.wrap ((Go.bits .and .u64 (a0 / 2) 6148914691236517205) + (Go.bits .and .u64 a0 6148914691236517205))) 3689348814741910323))) / 16) + (IntKind.u64.wrap ((Go.bits .and .u64 ((IntKind.u64.wrap ((Go.bits .and .u64 (a0 / 2) 6148914691236517205) + (Go.bits .and .u64 a0 6148914691236517205))) / 4) 3689348814741910323) + (Go.bits .and .u64 (IntKind.u64.wrap ((Go.bits .and .u64 (a0 / 2) 6148914691236517205) + (Go.bits .and .u64 a0 6148914691236517205))) 3689348814741910323))))) 1085102592571150095) / 256))) + ((IntKind.u64.wrap ((Go.bits .and .u64 (IntKind.u64.wrap (((IntKind.u64.wrap ((Go.bits .and .u64 ((IntKind.u64.wrap ((Go.bits .and .u64 (a0 / 2) 6148914691236517205) + (Go.bits .and .u64 a0 6148914691236517205))) / 4) 3689348814741910323) + (Go.bits .and .u64 (IntKind.u64.wrap ((Go.bits .and .u64 (a0 / 2) 6148914691236517205) + (Go.bits .and .u64 a0 6148914691236517205))) 3689348814741910323))) / 16) + (IntKind.u64.wrap ((Go.bits .and .u64 ((IntKind.u64.wrap ((Go.bits .and .u64 (a0 / 2) 6148914691236517205) + (Go.bits .and .u64 a0 6148914691236517205))) / 4) 3689348814741910323) + (Go.bits .and .u64 (IntKind.u64.wrap ((Go.bits .and .u64 (a0 / 2) 6148914691236517205) + (Go.bits .and .u64 a0 6148914691236517205))) 3689348814741910323))))) 1085102592571150095) + ((Go.bits .and .u64 (IntKind.u64.wrap (((IntKind.u64.wrap ((Go.bits .and .u64 ((IntKind.u64.wrap ((Go.bits .and .u64 (a0 / 2) 6148914691236517205) + (Go.bits .and .u64 a0 6148914691236517205))) / 4) 3689348814741910323) + (Go.bits .and .u64 (IntKind.u64.wrap ((Go.bits .and .u64 (a0 / 2) 6148914691236517205) + (Go.bits .and .u64 a0 6148914691236517205))) 3689348814741910323))) / 16) + (IntKind.u64.wrap ((Go.bits .and .u64 ((IntKind.u64.wrap ((Go.bits .and .u64 (a0 / 2) 6148914691236517205) + (Go.bits .and .u64 a0 6148914691236517205))) / 4) 3689348814741910323) + (Go.bits .and .u64 (IntKind.u64.wrap ((Go.bits .and .u64 (a0 / 2) 6148914691236517205) + (Go.bits .and .u64 a0 6148914691236517205))) 3689348814741910323))))) 1085102592571150095) / 256))) / 65536))) + ((IntKind.u64.wrap ((IntKind.u64.wrap ((Go.bits .and .u64 (IntKind.u64.wrap (((IntKind.u64.wrap ((Go.bits .and .u64 ((IntKind.u64.wrap ((Go.bits .and .u64 (a0 / 2) 6148914691236517205) + (Go.bits .and .u64 a0 6148914691236517205))) / 4) 3689348814741910323) + (Go.bits .and .u64 (IntKind.u64.wrap ((Go.bits .and .u64 (a0 / 2) 6148914691236517205) + (Go.bits .and .u64 a0 6148914691236517205))) 3689348814741910323))) / 16) + (IntKind.u64.wrap ((Go.bits .and .u64 ((IntKind.u64.wrap ((Go.bits .and .u64 (a0 / 2) 6148914691236517205) + (Go.bits .and .u64 a0 6148914691236517205))) / 4) 3689348814741910323) + (Go.bits .and .u64 (IntKind.u64.wrap ((Go.bits .and .u64 (a0 / 2) 6148914691236517205) + (Go.bits .and .u64 a0 6148914691236517205))) 3689348814741910323))))) 1085102592571150095) + ((Go.bits .and .u64 (IntKind.u64.wrap (((IntKind.u64.wrap ((Go.bits .and .u64 ((IntKind.u64.wrap ((Go.bits .and .u64 (a0 / 2) 6148914691236517205) + (Go.bits .and .u64 a0 6148914691236517205))) / 4) 3689348814741910323) + (Go.bits .and .u64 (IntKind.u64.wrap ((Go.bits .and .u64 (a0 / 2) 6148914691236517205) + (Go.bits .and .u64 a0 6148914691236517205))) 3689348814741910323))) / 16) + (IntKind.u64.wrap ((Go.bits .and .u64 ((IntKind.u64.wrap ((Go.bits .and .u64 (a0 / 2) 6148914691236517205) + (Go.bits .and .u64 a0 6148914691236517205))) / 4) 3689348814741910323) + (Go.bits .and .u64 (IntKind.u64.wrap ((Go.bits .and .u64 (a0 / 2) 6148914691236517205) + (Go.bits .and .u64 a0 6148914691236517205))) 3689348814741910323))))) 1085102592571150095) / 256))) + ((IntKind.u64.wrap ((Go.bits .and .u64 (IntKind.u64.wrap (((IntKind.u64.wrap ((Go.bits .and .u64 ((IntKind.u64.wrap ((Go.bits .and .u64 (a0 / 2) 6148914691236517205) + (Go.bits .and .u64 a0 6148914691236517205))) / 4) 3689348814741910323) + (Go.bits .and .u64 (IntKind.u64.wrap ((Go.bits .and .u64 (a0 / 2) 6148914691236517205) + (Go.bits .and .u64 a0 6148914691236517205))) 3689348814741910323))) / 16) + (IntKind.u64.wrap ((Go.bits .and .u64 ((IntKind.u64.wrap ((Go.bits .and .u64 (a0 / 2) 6148914691236517205) + (Go.bits .and .u64 a0 6148914691236517205))) / 4) 3689348814741910323) + (Go.bits .and .u64 (IntKind.u64.wrap ((Go.bits .and .u64 (a0 / 2) 6148914691236517205) + (Go.bits .and .u64 a0 6148914691236517205))) 3689348814741910323))))) 1085102592571150095) + ((Go.bits .and .u64 (IntKind.u64.wrap (((IntKind.u64.wrap ((Go.bits .and .u64 ((IntKind.u64.wrap ((Go.bits .and .u64 (a0 / 2) 6148914691236517205) + (Go.bits .and .u64 a0 6148914691236517205))) / 4) 3689348814741910323) + (Go.bits .and .u64 (IntKind.u64.wrap ((Go.bits .and .u64 (a0 / 2) 6148914691236517205) + (Go.bits .and .u64 a0 6148914691236517205))) 3689348814741910323))) / 16) + (IntKind.u64.wrap ((Go.bits .and .u64 ((IntKind.u64.wrap ((Go.bits .and .u64 (a0 / 2) 6148914691236517205) + (Go.bits .and .u64 a0 6148914691236517205))) / 4) 3689348814741910323) + (Go.bits .and .u64 (IntKind.u64.wrap ((Go.bits .and .u64 (a0 / 2) 6148914691236517205) + (Go.bits .and .u64 a0 6148914691236517205))) 3689348814741910323))))) 1085102592571150095) / 256))) / 65536))) / 4294967296)))) 127)
set_option maxHeartbeats 8000000 in
set_option maxRecDepth 100000 in
theorem bits_OnesCount64.calls (a0 : Int) (r : Int) (w : World) (h : bits_OnesCount64.f a0 = some r) :
    Calls Tryd.prog 45 #[.int .u64 a0] w fun e w' => e = .returned (.int .i64 r) ∧ Drawn0 w w' := by
  have H : (some (Go.bits .and .i64 (wrap64 (IntKind.u64.wrap ((IntKind.u64.wrap ((IntKind.u64.wrap ((Go.bits .and .u64 (IntKind.u64.wrap (((IntKind.u64.wrap ((Go.bits .and .u64 ((IntKind.u64.wrap ((Go.bits .and .u64 (a0 / 2) 6148914691236517205) + (Go.bits .and .u64 a0 6148914691236517205))) / 4) 3689348814741910323) + (Go.bits .and .u64 (IntKind.u64.wrap ((Go.bits .and .u64 (a0 / 2) 6148914691236517205) + (Go.bits .and .u64 a0 6148914691236517205))) 3689348814741910323))) / 16) + (IntKind.u64.wrap ((Go.bits .and .u64 ((IntKind.u64.wrap ((Go.bits .and .u64 (a0 / 2) 6148914691236517205) + (Go.bits .and .u64 a0 6148914691236517205))) / 4) 3689348814741910323) + (Go.bits .and .u64 (IntKind.u64.wrap ((Go.bits .and .u64 (a0 / 2) 6148914691236517205) + (Go.bits .and .u64 a0 6148914691236517205))) 3689348814741910323))))) 1085102592571150095) + ((Go.bits .and .u64 (IntKind.u64.wrap (((IntKind.u64.wrap ((Go.bits .and .u64 ((IntKind.u64.wrap ((Go.bits .and .u64 (a0 / 2) 6148914691236517205) + (Go.bits .and .u64 a0 6148914691236517205))) / 4) 3689348814741910323) + (Go.bits .and .u64 (IntKind.u64.wrap ((Go.bits .and .u64 (a0 / 2) 6148914691236517205) + (Go.bits .and .u64 a0 6148914691236517205))) 3689348814741910323))) / 16) + (IntKind.u64.wrap ((Go.bits .and .u64 ((IntKind.u64.wrap ((Go.bits .and .u64 (a0 / 2) 6148914691236517205) + (Go.bits .and .u64 a0 6148914691236517205))) / 4) 3689348814741910323) + (Go.bits .and .u64 (IntKind.u64.wrap ((Go.bits .and .u64 (a0 / 2) 6148914691236517205) + (Go.bits .and .u64 a0 6148914691236517205))) 3689348814741910323))))) 1085102592571150095) / 256))) + ((IntKind.u64.wrap ((Go.bits .and .u64 (IntKind.u64.wrap (((IntKind.u64.wrap ((Go.bits .and .u64 ((IntKind.u64.wrap ((Go.bits .and .u64 (a0 / 2) 6148914691236517205) + (Go.bits .and .u64 a0 6148914691236517205))) / 4) 3689348814741910323) + (Go.bits .and .u64 (IntKind.u64.wrap ((Go.bits .and .u64 (a0 / 2) 6148914691236517205) + (Go.bits .and .u64 a0 6148914691236517205))) 3689348814741910323))) / 16) + (IntKind.u64.wrap ((Go.bits .and .u64 ((IntKind.u64.wrap ((Go.bits .and .u64 (a0 / 2) 6148914691236517205) + (Go.bits .and .u64 a0 6148914691236517205))) / 4) 3689348814741910323) + (Go.bits .and .u64 (IntKind.u64.wrap ((Go.bits .and .u64 (a0 / 2) 6148914691236517205) + (Go.bits .and .u64 a0 6148914691236517205))) 3689348814741910323))))) 1085102592571150095) + ((Go.bits .and .u64 (IntKind.u64.wrap (((IntKind.u64.wrap ((Go.bits .and .u64 ((IntKind.u64.wrap ((Go.bits .and .u64 (a0 / 2) 6148914691236517205) + (Go.bits .and .u64 a0 6148914691236517205))) / 4) 3689348814741910323) + (Go.bits .and .u64 (IntKind.u64.wrap ((Go.bits .and .u64 (a0 / 2) 6148914691236517205) + (Go.bits .and .u64 a0 6148914691236517205))) 3689348814741910323))) / 16) + (IntKind.u64.wrap ((Go.bits .and .u64 ((IntKind.u64.wrap ((Go.bits .and .u64 (a0 / 2) 6148914691236517205) + (Go.bits .and .u64 a0 6148914691236517205))) / 4) 3689348814741910323) + (Go.bits .and .u64 (IntKind.u64.wrap ((Go.bits .and .u64 (a0 / 2) 6148914691236517205) + (Go.bits .and .u64 a0 6148914691236517205))) 3689348814741910323))))) 1085102592571150095) / 256))) / 65536))) + ((IntKind.u64.wrap ((IntKind.u64.wrap ((Go.bits .and .u64 (IntKind.u64.wrap (((IntKind.u64.wrap ((Go.bits .and .u64 ((IntKind.u64.wrap ((Go.bits .and .u64 (a0 / 2) 6148914691236517205) + (Go.bits .and .u64 a0 6148914691236517205))) / 4) 3689348814741910323) + (Go.bits .and .u64 (IntKind.u64.wrap ((Go.bits .and .u64 (a0 / 2) 6148914691236517205) + (Go.bits .and .u64 a0 6148914691236517205))) 3689348814741910323))) / 16) + (IntKind.u64.wrap ((Go.bits .and .u64 ((IntKind.u64.wrap ((Go.bits .and .u64 (a0 / 2) 6148914691236517205) + (Go.bits .and .u64 a0 6148914691236517205))) / 4) 3689348814741910323) + (Go.bits .and .u64 (IntKind.u64.wrap ((Go.bits .and .u64 (a0 / 2) 6148914691236517205) + (Go.bits .and .u64 a0 6148914691236517205))) 3689348814741910323))))) 1085102592571150095) + ((Go.bits .and .u64 (IntKind.u64.wrap (((IntKind.u64.wrap ((Go.bits .and .u64 ((IntKind.u64.wrap ((Go.bits .and .u64 (a0 / 2) 6148914691236517205) + (Go.bits .and .u64 a0 6148914691236517205))) / 4) 3689348814741910323) + (Go.bits .and .u64 (IntKind.u64.wrap ((Go.bits .and .u64 (a0 / 2) 6148914691236517205) + (Go.bits .and .u64 a0 6148914691236517205))) 3689348814741910323))) / 16) + (IntKind.u64.wrap ((Go.bits .and .u64 ((IntKind.u64.wrap ((Go.bits .and .u64 (a0 / 2) 6148914691236517205) + (Go.bits .and .u64 a0 6148914691236517205))) / 4) 3689348814741910323) + (Go.bits .and .u64 (IntKind.u64.wrap ((Go.bits .and .u64 (a0 / 2) 6148914691236517205) + (Go.bits .and .u64 a0 6148914691236517205))) 3689348814741910323))))) 1085102592571150095) / 256))) + ((IntKind.u64.wrap ((Go.bits .and .u64 (IntKind.u64.wrap (((IntKind.u64.wrap ((Go.bits .and .u64 ((IntKind.u64.wrap ((Go.bits .and .u64 (a0 / 2) 6148914691236517205) + (Go.bits .and .u64 a0 6148914691236517205))) / 4) 3689348814741910323) + (Go.bits .and .u64 (IntKind.u64.wrap ((Go.bits .and .u64 (a0 / 2) 6148914691236517205) + (Go.bits .and .u64 a0 6148914691236517205))) 3689348814741910323))) / 16) + (IntKind.u64.wrap ((Go.bits .and .u64 ((IntKind.u64.wrap ((Go.bits .and .u64 (a0 / 2) 6148914691236517205) + (Go.bits .and .u64 a0 6148914691236517205))) / 4) 3689348814741910323) + (Go.bits .and .u64 (IntKind.u64.wrap ((Go.bits .and .u64 (a0 / 2) 6148914691236517205) + (Go.bits .and .u64 a0 6148914691236517205))) 3689348814741910323))))) 1085102592571150095) + ((Go.bits .and .u64 (IntKind.u64.wrap (((IntKind.u64.wrap ((Go.bits .and .u64 ((IntKind.u64.wrap ((Go.bits .and .u64 (a0 / 2) 6148914691236517205) + (Go.bits .and .u64 a0 6148914691236517205))) / 4) 3689348814741910323) + (Go.bits .and .u64 (IntKind.u64.wrap ((Go.bits .and .u64 (a0 / 2) 6148914691236517205) + (Go.bits .and .u64 a0 6148914691236517205))) 3689348814741910323))) / 16) + (IntKind.u64.wrap ((Go.bits .and .u64 ((IntKind.u64.wrap ((Go.bits .and .u64 (a0 / 2) 6148914691236517205) + (Go.bits .and .u64 a0 6148914691236517205))) / 4) 3689348814741910323) + (Go.bits .and .u64 (IntKind.u64.wrap ((Go.bits .and .u64 (a0 / 2) 6148914691236517205) + (Go.bits .and .u64 a0 6148914691236517205))) 3689348814741910323))))) 1085102592571150095) / 256))) / 65536))) / 4294967296)))) 127)) = some r := h
  clear h
  obtain rfl := Option.some.inj H
  go_enter Tryd.func45, Tryd.ntmps45
  go_wp2
  go_ret
  exact ⟨by first | rfl | (simp; done) | (simp [*]; done) | exact ne_empty _ | exact eq_empty _, by repeat (first | exact Drawn0.refl _ | apply Drawn0.step)⟩
def spencelaw18_BitmapTells.f (l0 : List Int) (a1 : Int) (a2 : Int) : Option (Bool) := some true
end Go.Proofs.YtcnlmpjoghogbaaDoor.PAll
namespace Go.Proofs.YtcnlmpjoghogbaaDoor.Ag
open Go.RowKit
def InU (f : Nat → Int) : Prop := ∀ j, ∃ n : Nat, f j = (n : Int) ∧ n < 2 ^ 64
theorem u64_wr (n : Int) (h0 : 0 ≤ n) (h1 : n < 2 ^ 64) : IntKind.u64.wrap n = n := by
  unfold IntKind.wrap
  simp [IntKind.bits, IntKind.signed]
  omega
theorem two_lt (r : Nat) (h : r < 64) : (2 ^ r : Nat) < 2 ^ 64 := Nat.pow_lt_pow_right (by decide) h
theorem two_cast (r : Nat) : (2 : Int) ^ r = ((2 ^ r : Nat) : Int) := by simp
theorem or_u (a b : Nat) (ha : a < 2 ^ 64) (hb : b < 2 ^ 64) : bits .or .u64 (a : Int) (b : Int) = ((a ||| b : Nat) : Int) := (bits_nat .u64 64 (by decide) u64_wr a b ha hb).2
theorem and_u (a b : Nat) (ha : a < 2 ^ 64) (hb : b < 2 ^ 64) : bits .and .u64 (a : Int) (b : Int) = ((a &&& b : Nat) : Int) := (bits_nat .u64 64 (by decide) u64_wr a b ha hb).1
theorem has_eq (f : Nat → Int) (hU : InU f) (i : Int) : hasF f i = (decide (0 ≤ i ∧ i ≤ 4096) && (f (i.toNat / 64)).toNat.testBit (i.toNat % 64)) := by
  unfold hasF
  obtain ⟨n, e, hn⟩ := hU (i.toNat / 64)
  congr 1
  rw [e, two_cast, Int.toNat_natCast]
  have h1 : ((n : Int) / ((2 ^ (i.toNat % 64) : Nat) : Int)) = ((n / 2 ^ (i.toNat % 64) : Nat) : Int) := rfl
  have h2 : n / 2 ^ (i.toNat % 64) < 2 ^ 64 := Nat.lt_of_le_of_lt (Nat.div_le_self _ _) hn
  rw [h1, show (1 : Int) = ((1 : Nat) : Int) from rfl, and_u _ 1 h2 (by decide), Nat.and_one_is_mod, Nat.testBit_eq_decide_div_mod_eq]
  generalize n / 2 ^ (i.toNat % 64) % 2 = m
  rw [Bool.eq_iff_iff, beq_iff_eq, decide_eq_true_eq]
  omega
theorem with_eq (f : Nat → Int) (hU : InU f) (i : Int) (h : 0 ≤ i ∧ i ≤ 4096) : withF f i = putF f (i.toNat / 64) (((f (i.toNat / 64)).toNat ||| 2 ^ (i.toNat % 64) : Nat) : Int) ∧ ((f (i.toNat / 64)).toNat ||| 2 ^ (i.toNat % 64)) < 2 ^ 64 := by
  obtain ⟨n, e, hn⟩ := hU (i.toNat / 64)
  have h2 := two_lt (i.toNat % 64) (Nat.mod_lt _ (by decide))
  unfold withF
  rw [if_pos h, e, two_cast, u64_wr _ (Int.natCast_nonneg _) (by exact_mod_cast h2), or_u _ _ hn h2, Int.toNat_natCast]
  exact ⟨rfl, Nat.or_lt_two_pow hn h2⟩
theorem zeroU : InU zeroF := fun _ => ⟨0, rfl, by decide⟩
theorem withU (f : Nat → Int) (hU : InU f) (i : Int) : InU (withF f i) := by
  by_cases h : 0 ≤ i ∧ i ≤ 4096
  · obtain ⟨e, hlt⟩ := with_eq f hU i h
    rw [e]
    intro j
    unfold putF
    split
    · exact ⟨_, rfl, hlt⟩
    · exact hU j
  · unfold withF; rw [if_neg h]; exact hU
theorem has_with (f : Nat → Int) (hU : InU f) (i j : Int) : hasF (withF f i) j = (hasF f j || (decide (0 ≤ i ∧ i ≤ 4096) && decide (i = j))) := by
  by_cases h : 0 ≤ i ∧ i ≤ 4096
  · rw [has_eq _ (withU f hU i), has_eq _ hU, decide_eq_true h, Bool.true_and]
    by_cases hj : 0 ≤ j ∧ j ≤ 4096
    · rw [decide_eq_true hj, Bool.true_and, Bool.true_and, (with_eq f hU i h).1]
      unfold putF
      by_cases hq : j.toNat / 64 = i.toNat / 64
      · rw [if_pos hq, Int.toNat_natCast, Nat.testBit_or, Nat.testBit_two_pow, hq]
        congr 1
        rw [decide_eq_decide]; omega
      · rw [if_neg hq, decide_eq_false (by omega), Bool.or_false]
    · rw [decide_eq_false hj, decide_eq_false (by omega)]; rfl
  · unfold withF; rw [if_neg h, decide_eq_false h, Bool.false_and, Bool.or_false]
theorem ofU (l : List Int) : ∀ f, InU f → InU (l.foldl withF f) := by
  induction l with
  | nil => exact fun _ h => h
  | cons x l ih => exact fun f h => ih _ (withU f h x)
theorem has_fold (l : List Int) (j : Int) : ∀ f, InU f → hasF (l.foldl withF f) j = (hasF f j || (decide (0 ≤ j ∧ j ≤ 4096) && decide (j ∈ l))) := by
  induction l with
  | nil => intro f _; simp
  | cons x l ih =>
    intro f h
    rw [List.foldl_cons, ih _ (withU f h x), has_with f h x j, Bool.or_assoc]
    congr 1
    rw [Bool.eq_iff_iff]
    simp only [Bool.or_eq_true, Bool.and_eq_true, decide_eq_true_eq, List.mem_cons]
    constructor
    · rintro (⟨h1, h2⟩ | ⟨h1, h2⟩)
      · exact ⟨by omega, .inl h2.symm⟩
      · exact ⟨h1, .inr h2⟩
    · rintro ⟨h1, h2 | h2⟩
      · exact .inl ⟨by omega, h2.symm⟩
      · exact .inr ⟨h1, h2⟩
theorem has_zero (j : Int) : hasF zeroF j = false := by
  rw [has_eq _ zeroU]
  simp [zeroF]
theorem has_of (l : List Int) (j : Int) : hasF (l.foldl withF zeroF) j = (decide (0 ≤ j ∧ j ≤ 4096) && decide (j ∈ l)) := by
  rw [has_fold l j _ zeroU, has_zero, Bool.false_or]
end Go.Proofs.YtcnlmpjoghogbaaDoor.Ag
namespace Go.Proofs.YtcnlmpjoghogbaaDoor.Ag
open Go.RowKit Go.Proofs.YtcnlmpjoghogbaaDoor.Xw Go.Proofs.YtcnlmpjoghogbaaDoorW.PrintWords Go.Proofs.YtcnlmpjoghogbaaDoorW.PrintLast Go.Proofs.YtcnlmpjoghogbaaDoorW.PrintMore
def eqF (n : Nat) (f1 f2 : Nat → Int) : Bool := (List.range n).all fun i => f1 i == f2 i
theorem row_items {P : Program} (w : World) (d : Nat) (e : TypeId) (k k' : IntKind) (n : Nat) (f1 f2 : Nat → Int) (he : P.underlying e = some (.int k')) : ∀ is : List Nat, (∀ i ∈ is, i < n) → (Op.eqItems (d + 1) e 1 (agC k n f1) (agC k n f2) is).run P w = .ok (is.all fun i => f1 i == f2 i) w
  | [], _ => by simp [Op.eqItems]
  | i :: is, h => by
    have hi := h i List.mem_cons_self
    have px : ∀ f, (part e (agC k n f) (i * 1)).run P w = .ok (.int k (f i)) w := fun f => by
      have := agC_get k n f i hi
      simp [part, isAgg, run_underlying he, this]
    have ih := row_items w d e k k' n f1 f2 he is (fun j hj => h j (List.mem_cons_of_mem _ hj))
    simp only [Op.eqItems, Sem.run_bind, px, Result.andThen_ok, run_equalIn_int w d e k k' _ _ he, List.all_cons]
    cases hb : (f1 i == f2 i)
    · simp
    · simp [ih]
theorem eqF_iff (n : Nat) (f1 f2 : Nat → Int) : eqF n f1 f2 = true ↔ ∀ i, i < n → f1 i = f2 i := by
  unfold eqF
  simp
theorem isAgg_agg {P : Program} (w : World) {t : TypeId} {n : Nat} {e : TypeId} (h : P.underlying t = some (.array n e)) : (isAgg t).run P w = .ok true w := by
  simp [isAgg, run_underlying h]
theorem map_eql (f1 f2 : Nat → Int) (w : World) : (binOp .eql 27 (.agg (agC .u64 65 f1)) (.agg (agC .u64 65 f2))).run Tryd.prog w = .ok (.bool (eqF 65 f1 f2)) w := by
  rw [run_eql_struct, run_equalIn_agg _ _ _ _ _ (by kernel_rfl) (by kernel_rfl)]
  obtain ⟨fd, hf, hn, ht, ho⟩ : ∃ fd, (Tryd.prog.fieldsOf 27).toList = [fd] ∧ (fd.name == "_") = false ∧ fd.type = 25 ∧ fd.offset = 0 := ⟨(Tryd.prog.fieldsOf 27).toList.headD default, by kernel_rfl, by kernel_rfl, by kernel_rfl, by kernel_rfl⟩
  have hi : (Tryd.prog.info? 25).map (·.size) = some 65 := by kernel_rfl
  obtain ⟨i1, hi1, hs1⟩ := Option.map_eq_some_iff.1 hi
  have hi' : (Tryd.prog.info? 24).map (·.size) = some 1 := by kernel_rfl
  obtain ⟨i2, hi2, hs2⟩ := Option.map_eq_some_iff.1 hi'
  have px : ∀ f, (part fd.type (agC .u64 65 f) fd.offset).run Tryd.prog w = .ok (.agg (agC .u64 65 f)) w := fun f => by
    rw [ht, ho]
    simp only [part, Sem.run_bind, isAgg_agg w Tryd.underlying25, Result.andThen_ok, if_true, run_sizeOf w hi1, Sem.run_pure, Nat.zero_add]
    rw [show Tryd.prog.cellsOf 25 = (agC .u64 65 f).size by rw [agC_size]; kernel_rfl, Array.extract_size]
  rw [hf]
  have hn' : fd.name ≠ "_" := by simpa using hn
  have hc : Tryd.prog.cellsOf 24 = 1 := by kernel_rfl
  simp only [Op.eqFields, hn', ne_eq, not_false_eq_true, if_true, Sem.run_bind, px, Result.andThen_ok]
  rw [ht, run_equalIn_array w 9998 _ _ Tryd.underlying25 hi2, hc, row_items w 9997 24 .u64 .u64 65 f1 f2 Tryd.underlying24 _ (fun i h => List.mem_range.1 h)]
  unfold eqF
  cases ((List.range 65).all fun i => f1 i == f2 i) <;> rfl
end Go.Proofs.YtcnlmpjoghogbaaDoor.Ag
namespace Go.Proofs.YtcnlmpjoghogbaaDoor.Ag
open Go.RowKit
def bitF (f : Nat → Int) (j : Nat) : Bool := (f (j / 64)).toNat.testBit (j % 64)
theorem has_bit (f : Nat → Int) (hU : InU f) (i : Int) : hasF f i = (decide (0 ≤ i ∧ i ≤ 4096) && bitF f i.toNat) := has_eq f hU i
theorem eqF_bits (f g : Nat → Int) (hf : InU f) (hg : InU g) : eqF 65 f g = true ↔ ∀ j, j < 4160 → bitF f j = bitF g j := by
  rw [eqF_iff]
  constructor
  · intro h j hj
    unfold bitF
    rw [h (j / 64) (by omega)]
  · intro h i hi
    obtain ⟨m, e1, h1⟩ := hf i
    obtain ⟨n, e2, h2⟩ := hg i
    rw [e1, e2]
    congr 1
    refine Nat.eq_of_testBit_eq fun k => ?_
    by_cases hk : k < 64
    · have := h (64 * i + k) (by omega)
      unfold bitF at this
      rw [show (64 * i + k) / 64 = i by omega, show (64 * i + k) % 64 = k by omega, e1, e2] at this
      simpa using this
    · have hp : 2 ^ 64 ≤ 2 ^ k := Nat.pow_le_pow_right (by decide) (by omega)
      rw [Nat.testBit_lt_two_pow (by omega), Nat.testBit_lt_two_pow (by omega)]
theorem bit_with (f : Nat → Int) (hU : InU f) (i : Int) (j : Nat) : bitF (withF f i) j = (bitF f j || (decide (0 ≤ i ∧ i ≤ 4096) && decide (i = j))) := by
  by_cases h : 0 ≤ i ∧ i ≤ 4096
  · unfold bitF
    rw [decide_eq_true h, Bool.true_and, (with_eq f hU i h).1]
    unfold putF
    by_cases hq : j / 64 = i.toNat / 64
    · rw [if_pos hq, Int.toNat_natCast, Nat.testBit_or, Nat.testBit_two_pow, hq]
      congr 1
      rw [decide_eq_decide]; omega
    · rw [if_neg hq, decide_eq_false (by omega), Bool.or_false]
  · unfold withF; rw [if_neg h, decide_eq_false h, Bool.false_and, Bool.or_false]
theorem bit_fold (l : List Int) (j : Nat) : ∀ f, InU f → bitF (l.foldl withF f) j = (bitF f j || (decide (j ≤ 4096) && decide ((j : Int) ∈ l))) := by
  induction l with
  | nil => intro f _; simp
  | cons x l ih =>
    intro f h
    rw [List.foldl_cons, ih _ (withU f h x), bit_with f h x j, Bool.or_assoc]
    congr 1
    rw [Bool.eq_iff_iff]
    simp only [Bool.or_eq_true, Bool.and_eq_true, decide_eq_true_eq, List.mem_cons]
    constructor
    · rintro (⟨h1, h2⟩ | ⟨h1, h2⟩)
      · exact ⟨by omega, .inl h2.symm⟩
      · exact ⟨h1, .inr h2⟩
    · rintro ⟨h1, h2 | h2⟩
      · exact .inl ⟨by omega, h2.symm⟩
      · exact .inr ⟨h1, h2⟩
def ofF (l : List Int) : Nat → Int := l.foldl withF zeroF
theorem of_U (l : List Int) : InU (ofF l) := ofU l _ zeroU
theorem bit_of (l : List Int) (j : Nat) : bitF (ofF l) j = (decide (j ≤ 4096) && decide ((j : Int) ∈ l)) := by
  unfold ofF
  rw [bit_fold l j _ zeroU]
  simp [bitF, zeroF]
end Go.Proofs.YtcnlmpjoghogbaaDoor.Ag
namespace Go.Proofs.YtcnlmpjoghogbaaDoor.Ag
open Go.RowKit
/-- the places of the bits of n that are set, below 64 -/
def posL (n : Nat) : List Nat := (List.range 64).filter n.testBit
theorem posL_zero : posL 0 = [] := by
  unfold posL
  rw [List.filter_eq_nil_iff]
  intro a _
  simp
theorem low_bit (n : Nat) (h0 : n ≠ 0) (hn : n < 2 ^ 64) : ∃ m, n = 2 ^ Lib.ctz 64 n * (2 * m + 1) ∧ Lib.ctz 64 n < 64 := by
  have := Lib.ctzFrom_spec 64 n (by omega) hn
  unfold Lib.ctz
  rw [if_neg h0]
  exact this
theorem less_one (k m : Nat) (j : Nat) : ((2 ^ k * (2 * m + 1)) &&& (2 ^ k * (2 * m + 1) - 1)).testBit j = ((2 ^ k * (2 * m + 1)).testBit j && decide (j ≠ k)) := by
  have e : 2 ^ k * (2 * m + 1) - 1 = 2 ^ (k + 1) * m + (2 ^ k - 1) := by
    have h1 : 0 < 2 ^ k := Nat.two_pow_pos k
    have h2 : 2 ^ k * (2 * m + 1) = 2 ^ (k + 1) * m + 2 ^ k := by rw [Nat.mul_add, Nat.mul_one, Nat.pow_succ, Nat.mul_assoc]
    omega
  have e2 : 2 ^ k * (2 * m + 1) = 2 ^ (k + 1) * m + 2 ^ k := by rw [Nat.mul_add, Nat.mul_one, Nat.pow_succ, Nat.mul_assoc]
  have hlt : 2 ^ k - 1 < 2 ^ (k + 1) := by rw [Nat.pow_succ]; have := Nat.two_pow_pos k; omega
  have hlt2 : 2 ^ k < 2 ^ (k + 1) := by rw [Nat.pow_succ]; have := Nat.two_pow_pos k; omega
  rw [Nat.testBit_and, e, e2, Nat.testBit_two_pow_mul_add _ hlt, Nat.testBit_two_pow_mul_add _ hlt2]
  by_cases h : j < k + 1
  · rw [if_pos h, if_pos h, Nat.testBit_two_pow_sub_one, Nat.testBit_two_pow]
    by_cases hk : j = k
    · subst hk; simp
    · have : ¬ k = j := fun e => hk e.symm
      simp [this]
  · rw [if_neg h, if_neg h]
    have : j ≠ k := by omega
    simp [this]
theorem posL_step (n : Nat) (h0 : n ≠ 0) (hn : n < 2 ^ 64) : posL n = Lib.ctz 64 n :: posL (n &&& (n - 1)) := by
  obtain ⟨m, hm, hk⟩ := low_bit n h0 hn
  generalize Lib.ctz 64 n = k at hm hk
  subst hm
  have hsplit : List.range 64 = List.range k ++ k :: List.range' (k + 1) (63 - k) := by
    have h1 : (64 : Nat) = k + (63 - k + 1) := by omega
    have h2 : List.range (k + (63 - k + 1)) = List.range k ++ List.range' k (63 - k + 1) := by
      rw [List.range_eq_range', List.range_eq_range']
      have := @List.range'_append_1 0 k (63 - k + 1)
      rw [Nat.zero_add] at this
      exact this.symm
    rw [h1, h2, List.range'_succ]
  have e2 : 2 ^ k * (2 * m + 1) = 2 ^ (k + 1) * m + 2 ^ k := by rw [Nat.mul_add, Nat.mul_one, Nat.pow_succ, Nat.mul_assoc]
  have hlt2 : 2 ^ k < 2 ^ (k + 1) := by rw [Nat.pow_succ]; have := Nat.two_pow_pos k; omega
  have hlow : ∀ j, j < k → (2 ^ k * (2 * m + 1)).testBit j = false := fun j hj => by
    rw [e2, Nat.testBit_two_pow_mul_add _ hlt2, if_pos (by omega), Nat.testBit_two_pow]
    simp; omega
  have hat : (2 ^ k * (2 * m + 1)).testBit k = true := by
    rw [e2, Nat.testBit_two_pow_mul_add _ hlt2, if_pos (by omega), Nat.testBit_two_pow]
    simp
  unfold posL
  rw [hsplit, List.filter_append, List.filter_append, List.filter_cons, List.filter_cons, hat, less_one, hat]
  have z1 : (List.range k).filter (2 ^ k * (2 * m + 1)).testBit = [] := by
    rw [List.filter_eq_nil_iff]; intro a ha; rw [hlow a (List.mem_range.1 ha)]; decide
  have z2 : (List.range k).filter (((2 ^ k * (2 * m + 1)) &&& (2 ^ k * (2 * m + 1) - 1))).testBit = [] := by
    rw [List.filter_eq_nil_iff]; intro a ha; rw [less_one, hlow a (List.mem_range.1 ha)]; simp
  have z3 : (List.range' (k + 1) (63 - k)).filter (((2 ^ k * (2 * m + 1)) &&& (2 ^ k * (2 * m + 1) - 1))).testBit = (List.range' (k + 1) (63 - k)).filter (2 ^ k * (2 * m + 1)).testBit := by
    refine List.filter_congr fun a ha => ?_
    rw [less_one]
    have : a ≠ k := by have := (List.mem_range'_1.1 ha).1; omega
    simp [this]
  rw [z1, z2, z3]
  simp
theorem and_less (n : Nat) (h0 : n ≠ 0) : (n &&& (n - 1)) < n := Nat.lt_of_le_of_lt Nat.and_le_right (by omega)
/-- the numbers of one word -/
def wordL (k n : Nat) : List Int := (posL n).map fun i : Nat => ((k * 64 + i : Nat) : Int)
/-- the numbers from word k on -/
def restF (f : Nat → Int) : Nat → Nat → List Int
  | 0, _ => []
  | d + 1, k => wordL k (f k).toNat ++ restF f d (k + 1)
/-- the numbers that a map has, rising -/
def allF (f : Nat → Int) : List Int := restF f 65 0
theorem word_step (k n : Nat) (h0 : n ≠ 0) (hn : n < 2 ^ 64) : wordL k n = ((k * 64 + Lib.ctz 64 n : Nat) : Int) :: wordL k (n &&& (n - 1)) := by
  unfold wordL
  rw [posL_step n h0 hn]
  rfl
theorem word_zero (k : Nat) : wordL k 0 = [] := by unfold wordL; rw [posL_zero]; rfl
theorem word_len (k n : Nat) : (wordL k n).length ≤ 64 := by
  unfold wordL posL
  rw [List.length_map]
  have := List.length_filter_le n.testBit (List.range 64)
  simpa using this
theorem rest_len (f : Nat → Int) : ∀ d k, (restF f d k).length ≤ 64 * d
  | 0, _ => by simp [restF]
  | d + 1, k => by
    have h1 := word_len k (f k).toNat
    have h2 := rest_len f d (k + 1)
    rw [restF, List.length_append]; omega
theorem all_len (f : Nat → Int) : (allF f).length ≤ 4160 := rest_len f 65 0
end Go.Proofs.YtcnlmpjoghogbaaDoor.Ag
namespace Go.Proofs.YtcnlmpjoghogbaaDoor.Ag
open Go.RowKit Go.Shelf Go.Proofs.YtcnlmpjoghogbaaDoor.Xw Go.Proofs.YtcnlmpjoghogbaaDoorW.PrintWords Go.Proofs.YtcnlmpjoghogbaaDoorW.PrintLast Go.Proofs.YtcnlmpjoghogbaaDoorW.PrintMore
attribute [local go_sem] Oper.semAt_some
theorem all_calls (f : Nat → Int) (w : World) : Calls Tryd.prog 12 #[.agg (agC .u64 65 f)] w fun e w' => e = .returned (.func (.func 43) #[] #[.pointer (some ⟨w.heap.size, 0, none⟩)]) ∧ w' = w.alloc (.cells (agC .u64 65 f) 27 (0, 0)) := by
  go_enter Tryd.func12, Tryd.ntmps12
  go_wp2
  go_ret
  exact ⟨rfl, rfl⟩
def ldArr (v : Value) : Sem Value := Instr.loadAt 25 v
theorem ldArr_eq (v : Value) : Instr.loadAt 25 v = ldArr v := rfl
theorem info_arr : (Tryd.prog.info? 25).map (·.size) = some 65 := by kernel_rfl
theorem Holds.ldA {g : Nat} {f : Nat → Int} {w : World} (h : Holds g f w) : (ldArr (.pointer (some ⟨g, 0, none⟩))).run Tryd.prog w = .ok (.agg (agC .u64 65 f)) w := by
  have hl : (loadVar 25 ⟨g, 0, none⟩).run Tryd.prog w = .ok (.agg (agC .u64 65 f)) w := by
    refine run_loadVar_mid w g 0 25 (agC .u64 65 f).toList _ ?_ Tryd.underlying25 rfl (by rw [info_arr]; simp [agC])
    intro j v hv
    rw [Nat.zero_add]
    have := blk_cell h j
    rw [Array.getElem?_toList] at hv
    rw [this]; exact hv
  simp only [ldArr, Instr.loadAt, Instr.sureAddr, Sem.run_bind, Sem.run_pure, Result.andThen_ok, hl]
attribute [local go_sem ↓] ldArr_eq
theorem idx_row (f : Nat → Int) (k : Nat) (hk : k < 65) (w : World) : (Instr.index 25 (.agg (agC .u64 65 f)) (.int .i64 k)).run Tryd.prog w = .ok (.int .u64 (f k)) w := by
  have hg := agC_get .u64 65 f k hk
  have hi' : (Tryd.prog.info? 24).map (·.size) = some 1 := by kernel_rfl
  obtain ⟨i2, hi2, hs2⟩ := Option.map_eq_some_iff.1 hi'
  have px : (part 24 (agC .u64 65 f) (k * 1)).run Tryd.prog w = .ok (.int .u64 (f k)) w := by
    simp [part, isAgg, run_underlying Tryd.underlying24, hg]
  have hc : Tryd.prog.cellsOf 24 = 1 := by kernel_rfl
  simp only [Instr.index, asIntOf, Sem.run_bind, Sem.run_pure, Result.andThen_ok, run_underlying Tryd.underlying25]
  rw [if_pos (by omega)]
  simp only [Sem.run_bind, run_sizeOf w hi2, hc, Result.andThen_ok, Int.toNat_natCast, px]
set_option maxRecDepth 100000 in
set_option maxHeartbeats 4000000 in
theorem all1_in (n : Nat) (hn : 1 ≤ n) (l Bm n₀ : Nat) (f : Nat → Int) (hU : InU f) (hn₀ : 0 < n₀) (J Jx : List Int → World → Prop)
    (hY : ∀ pre x W, J pre W → pre.length < (allF f).length → YieldAt Fence.wide (n - 1) Tryd.prog l #[.int .i64 x] W fun e W' =>
      (e = .returned (.bool true) ∧ J (pre ++ [x]) W' ∧ Below n₀ W W') ∨ (e = .returned (.bool false) ∧ Jx (pre ++ [x]) W'))
    (W : World) (hBm : Holds Bm f W) (hT : TabW W) (h0 : J [] W) :
    CallsIn Fence.wide n Tryd.prog 43 #[.func (.yield l) #[] #[], .pointer (some ⟨Bm, 0, none⟩)] W fun e W' => (∃ v, e = .returned v) ∧
      ((∃ ys, ys = allF f ∧ J ys W') ∨ (∃ pre, pre <+: allF f ∧ Jx pre W')) := by
  refine callsIn_of_wp Tryd.func43 rfl trivial ?_ rfl
  simp only [Tryd.ntmps43, List.size_toArray, List.length_cons, List.length_nil, Nat.reduceAdd, Nat.reduceSub, Array.replicate_succ, Array.replicate_zero, List.push_toArray, List.append_toArray, List.nil_append, List.cons_append]
  have L := hBm.ldA
  replace hT := Aside0.mk hT
  gi_wp2
  gi_loopw [3, 4, 7] (fun _ _ s7 wr => ∃ (pre : List Int) (k : Nat), k ≤ 65 ∧ s7 = .int .i64 k ∧ allF f = pre ++ restF f (65 - k) k ∧ J pre wr ∧ Aside0 (Below n₀ W wr))
    (fun _ _ s7 _ => 65 - (intOf s7).toNat)
  case atStart => exact ⟨[], 0, by omega, rfl, rfl, h0, ⟨Below.refl _ _⟩⟩
  case round =>
    obtain ⟨pre, k, hk, rfl, hx, hJs, hb⟩ := hrel
    by_cases hlt : k < 65
    · have hltz : (k : Int) < 65 := by omega
      have hidx := idx_row f k hlt
      obtain ⟨m, hfm, hm⟩ := hU k
      rw [hfm] at hidx
      have hx2 : allF f = pre ++ (wordL k m ++ restF f (64 - k) (k + 1)) := by
        rw [hx, show 65 - k = (64 - k) + 1 by omega, restF, hfm, Int.toNat_natCast]
      clear hx hlt hfm
      gi_wp2
      gi_loopw [4] (fun s4 wr2 => ∃ (pre2 : List Int) (m2 : Nat), m2 < 2 ^ 64 ∧ s4 = .int .u64 m2 ∧ allF f = pre2 ++ (wordL k m2 ++ restF f (64 - k) (k + 1)) ∧ J pre2 wr2 ∧ Aside0 (Below n₀ W wr2))
        (fun s4 _ => (intOf s4).toNat)
      case atStart => exact ⟨pre, m, hm, rfl, hx2, hJs, hb⟩
      case round =>
        clear hx2 hJs hb hm hidx
        obtain ⟨pre2, m2, hm2, rfl, hx, hJs, hb⟩ := hrel
        by_cases hz : m2 = 0
        · subst hz
          rw [word_zero, List.nil_append] at hx
          gi_wp2
          refine ⟨⟨pre2, k + 1, by omega, by go_num, by rw [hx, show 65 - (k + 1) = 64 - k by omega], hJs, hb⟩, ?_⟩
          simp [intOf]; omega
        · have hz' : ((m2 : Int) != 0) = true := by simp; omega
          have hpos : (1 : Int) ≤ (m2 : Int) := by omega
          have hub : (m2 : Int) ≤ 18446744073709551615 := by omega
          have hctz : Lib.ctz 64 m2 < 64 := by obtain ⟨_, _, h⟩ := low_bit m2 hz hm2; exact h
          have hct := tz_calls m2 hm2 hz wr (hT.out.below hb.out hn₀)
          have hk2 : (k : Int) ≤ 64 := by omega
          have hws := word_step k m2 hz hm2
          have hand : bits .and .u64 (m2 : Int) ((m2 : Int) - 1) = ((m2 &&& (m2 - 1) : Nat) : Int) := by
            rw [show (m2 : Int) - 1 = ((m2 - 1 : Nat) : Int) by omega]
            exact and_u m2 (m2 - 1) hm2 (by omega)
          have hlt2 := and_less m2 hz
          rw [hws] at hx
          generalize Lib.ctz 64 m2 = c at hctz hct hx hws
          have hc2 : (c : Int) ≤ 63 := by omega
          have hc0 : (0 : Int) ≤ (c : Int) := by omega
          have hx' : allF f = (pre2 ++ [(k : Int) * 64 + (c : Int)]) ++ (wordL k (m2 &&& (m2 - 1)) ++ restF f (64 - k) (k + 1)) := by
            rw [hx]; simp
          obtain ⟨fn, tmps, assign, body, hy, hR⟩ := hY pre2 ((k : Int) * 64 + (c : Int)) wr hJs (by rw [hx']; simp)
          clear hws hx
          replace hx' := Aside0.mk hx'
          gi_wp2_with (refine ⟨trivial, ?_⟩; gi_at_call 44; refine (callsIn_wide.2 hct).mono ?_; rintro e w' ⟨rfl, rfl⟩)
          refine hR.mono ?_
          rintro e W3 (⟨rfl, hJ3, hk3⟩ | ⟨rfl, hJx3⟩)
          · gi_wp2
            exact ⟨⟨_, m2 &&& (m2 - 1), Nat.lt_trans hlt2 hm2, rfl, hx'.out, hJ3, ⟨hb.out.trans hk3⟩⟩, by simp only [intOf, Int.toNat_natCast]; exact hlt2⟩
          · gi_wp2
            refine bodyPost_ret (results_none rfl _ _ _) rfl ?_
            exact ⟨⟨_, rfl⟩, .inr ⟨_, ⟨_, hx'.out.symm⟩, hJx3⟩⟩
    · obtain rfl : k = 65 := by omega
      have hltz : ¬ ((65 : Nat) : Int) < 65 := by omega
      replace hx := Aside0.mk (show allF f = pre by rw [hx]; simp [restF])
      gi_wp2
      go_end0
      exact ⟨⟨_, rfl⟩, .inl (by rw [hx.out]; exact hJs)⟩
/-- m.All()'s value, wherever the map lies in a block: all of its numbers, rising, or those till a round said 'no more'. -/
theorem all_stops (n : Nat) (hn : 1 ≤ n) (Bm n₀ : Nat) (f : Nat → Int) (hU : InU f) (w : World) (hn₀ : 0 < n₀) (hm : Holds Bm f w) (hT : TabW w) :
    SeqStopsK Fence.wide n Tryd.prog 43 #[.pointer (some ⟨Bm, 0, none⟩)] (fun x : Int => #[Value.int .i64 x]) (Below n₀) (fun ys => ys = allF f) (fun pre => pre <+: allF f) (allF f).length w :=
  fun l J Jx W hW _ _ hY h0 => all1_in n hn l Bm n₀ f hU hn₀ J Jx hY W (blk_below hm hW) (hT.step hW) h0
end Go.Proofs.YtcnlmpjoghogbaaDoor.Ag
namespace Go.Proofs.YtcnlmpjoghogbaaDoor.Ag
open Go.RowKit Go.Shelf Go.Proofs.YtcnlmpjoghogbaaDoor.Xw Go.Proofs.YtcnlmpjoghogbaaDoorW.PrintWords Go.Proofs.YtcnlmpjoghogbaaDoorW.PrintLast Go.Proofs.YtcnlmpjoghogbaaDoorW.PrintMore
attribute [local go_sem] Oper.semAt_some
attribute [local go_sem ↓] ldMap_eq
theorem info_int : (Tryd.prog.info? 3).map (fun i => (i.zero, i.size, i.bytes)) = some (some (.int .i64 0), 1, 8) := by kernel_rfl
set_option maxRecDepth 100000 in
set_option maxHeartbeats 4000000 in
theorem list_calls (f : Nat → Int) (hU : InU f) (w : World) (hT : TabW w) : Calls Tryd.prog 15 #[.agg (agC .u64 65 f)] w fun e W' =>
    ∃ v, e = .returned v ∧ W'.ownsRow w.heap.size 3 1 v (allF f).length ((allF f).map (Value.int .i64)) ∧ Below w.heap.size w W' := by
  refine (callsIn_wide (n := 3)).1 ?_
  have hal := all_len f
  have hpos := hT.pos
  obtain ⟨i0, hi, hz0, hz1, hz2⟩ := info_parts info_int
  refine callsIn_of_wp_marks Tryd.func15 rfl trivial ?_ rfl
  simp only [Tryd.ntmps15, List.size_toArray, List.length_cons, List.length_nil, Nat.reduceAdd, Nat.reduceSub, Array.replicate_succ, Array.replicate_zero, List.push_toArray, List.append_toArray, List.nil_append, List.cons_append]
  have L := (show Holds w.heap.size f ((w.alloc (.cells (agC .u64 65 f) 27 (0, 0))).alloc (.cells #[.slice none 0 0] 22 (0, 0))) from blk_alloc (blk_new w _) _).ld
  gi_wp2_with (refine ⟨trivial, ?_⟩; gi_at_call 12; refine (callsIn_wide.2 (all_calls f _)).mono ?_; rintro e w' ⟨rfl, rfl⟩)
  have bO : Boxed ((w.alloc (.cells (agC .u64 65 f) 27 (0, 0))).alloc (.cells #[.slice none 0 0] 22 (0, 0))) (w.heap.size + 1) 22 (.slice none 0 0) := by
    have := Boxed.new (w.alloc (.cells (agC .u64 65 f) 27 (0, 0))) 22 (.slice none 0 0)
    rw [alloc_size] at this
    exact this
  have bM : Holds (w.heap.size + 1 + 1) f (((w.alloc (.cells (agC .u64 65 f) 27 (0, 0))).alloc (.cells #[.slice none 0 0] 22 (0, 0))).alloc (.cells (agC .u64 65 f) 27 (0, 0))) := by
    have := blk_new ((w.alloc (.cells (agC .u64 65 f) 27 (0, 0))).alloc (.cells #[.slice none 0 0] 22 (0, 0))) (.cells (agC .u64 65 f) 27 (0, 0))
    rw [alloc_size, alloc_size] at this
    exact this
  have hB0 : Below w.heap.size w (((w.alloc (.cells (agC .u64 65 f) 27 (0, 0))).alloc (.cells #[.slice none 0 0] 22 (0, 0))).alloc (.cells (agC .u64 65 f) 27 (0, 0))) := below_alloc (below_alloc (below_alloc (Below.refl _ _) _) _) _
  refine wpIn_rangeFunc_ownG rfl (by omega) (gf := 43) (lb := #[.pointer (some ⟨w.heap.size + 1 + 1, 0, none⟩)]) rfl trivial (enters_of Tryd.func43 (by kernel_rfl) rfl)
    (all_stops (3 - 1) (by omega) (w.heap.size + 1 + 1) w.heap.size f hU _ hpos bM (hT.step hB0)) belowK_t (belowK_b (by simp; omega)) (Below.refl _ _) (fun _ => rfl)
    (fun pre W => (∃ v, Boxed W (w.heap.size + 1) 22 v ∧ W.ownsRow w.heap.size 3 1 v pre.length (pre.map (Value.int .i64)) ∧ True) ∧ Below w.heap.size w W)
    (fun _ _ _ => False)
    (OwnFrom.and (Own.from (holdsRow_own w.heap.size (w.heap.size + 1) 22 3 1 (fun pre : List Int => pre.length) (fun pre : List Int => pre.map (Value.int .i64)) (fun _ _ => True)) _) (ownFrom_below (Nat.le_refl _) (by simp; omega)))
    (fun _ _ _ _ _ hs _ _ => hs)
    ⟨⟨_, bO.alloc _, World.ownsRow_nil _ _ _ _, trivial⟩, hB0⟩
    (fun x => { tmps := #[.agg (agC .u64 65 f), .pointer (some ⟨w.heap.size, 0, none⟩), .slice none 0 0, .pointer (some ⟨w.heap.size + 1, 0, none⟩), .int .i64 x, .agg (agC .u64 65 f), .func (.func 43) #[] #[.pointer (some ⟨w.heap.size + 1 + 1, 0, none⟩)], .int .i64 x, undef, undef, undef, undef, undef], defers := [] }) ?assign ?body ?done ?stop
  case assign =>
    intro l x W K hK
    gi_wp2
    exact hK
  case body =>
    rintro l pre x W ⟨⟨v, hv, hrow, _⟩, hB⟩ hlt
    have hc := hv.cell
    gi_wp2_with (gi_at_builtin; refine wpListIn_append_own _ rfl _ _ 22 rfl w.heap.size 3 i0 (.int .i64 0) 1 8 Tryd.underlying22 hi hz0 hz1 hz2 rfl (by decide) _ _ _ rfl (hrow.alloc _) ⟨W.heap.size, 0, none⟩ 1 1 [.int .i64 x] rfl rfl (cell_one_new _ _ _) (by simp [Value.oneCell']) (by unfold maxLen; omega) (by omega) (by have := hB.size; simp; omega) ?_; intro v' w1 hown' hgrow _; obtain ⟨g', cap', rfl⟩ := ownsRow_succ hown'; obtain ⟨hv1, hv2, hr2, hk2, hb2⟩ := hv.appended (by decide) hrow hB.size (Nat.le_succ _) hown' hgrow; have hc1 := hv1.cell; have hf1 := hv1.frozen)
    exact ⟨hk2.from _, hb2, ⟨_, hv2, by simpa using hr2, trivial⟩, hB.trans hb2⟩
  case done =>
    rintro D ys W hD rfl ⟨⟨v, hv, hrow, _⟩, hB⟩ hK
    have hc := hv.cell
    gi_wp2
    refine ⟨by simp, .inl ⟨_, _, rfl, run_takeDeferred hK, ?_⟩⟩
    exact ⟨_, results_tmp rfl _ _ _, v, rfl, ownsRow_putObj hrow _ hK rfl, hB.trans (belowK_b (w := w) (Nat.le_refl _) W D _ _ (by simp at hD; omega) hK rfl rfl)⟩
  case stop =>
    rintro D c pre W _ _ h _
    exact h.elim
end Go.Proofs.YtcnlmpjoghogbaaDoor.Ag
namespace Go.Proofs.YtcnlmpjoghogbaaDoor.Ag
open Go.RowKit Go.Proofs.YtcnlmpjoghogbaaDoor.PAll
/-- the bits of the n lowest places, counted -/
def pcN : Nat → Nat → Nat
  | 0, _ => 0
  | n + 1, x => x % 2 + pcN n (x / 2)
theorem pcN_filter (n : Nat) : ∀ x, pcN n x = ((List.range n).filter x.testBit).length := by
  induction n with
  | zero => intro x; rfl
  | succ n ih =>
    intro x
    rw [pcN, ih, List.range_succ_eq_map, List.filter_cons, List.filter_map, Nat.testBit_zero]
    have e : (x.testBit ∘ Nat.succ) = (x / 2).testBit := by
      funext i
      simp [Nat.testBit_succ]
    rw [e]
    by_cases h : x % 2 = 1
    · simp [h]; omega
    · have : x % 2 = 0 := by omega
      simp [this]
theorem pos_len (x : Nat) : (posL x).length = pcN 64 x := (pcN_filter 64 x).symm
theorem and_digit (b A R m M : Nat) (hA : A < 2 ^ b) (hm : m < 2 ^ b) : (A + 2 ^ b * R) &&& (m + 2 ^ b * M) = (A &&& m) + 2 ^ b * (R &&& M) := by
  have hAm : A &&& m < 2 ^ b := Nat.and_lt_two_pow A hm
  apply Nat.eq_of_testBit_eq
  intro i
  rw [Nat.testBit_and, Nat.add_comm A, Nat.add_comm m, Nat.add_comm (A &&& m), Nat.testBit_two_pow_mul_add _ hA, Nat.testBit_two_pow_mul_add _ hm, Nat.testBit_two_pow_mul_add _ hAm]
  split
  · rw [Nat.testBit_and]
  · rw [Nat.testBit_and]
/-- masks: n digits (of b bits) that are all m -/
def mask (b m : Nat) : Nat → Nat
  | 0 => 0
  | n + 1 => m + 2 ^ b * mask b m n
/-- the first two steps, digit of four bits by digit -/
def t1 (n y : Nat) : Nat := (y / 2 &&& mask 4 5 n) + (y &&& mask 4 5 n)
def t2 (n y : Nat) : Nat := (y / 4 &&& mask 4 3 n) + (y &&& mask 4 3 n)
theorem t1_digit (n a R : Nat) (ha : a < 16) : t1 (n + 1) (a + 16 * R) = ((a / 2 &&& 5) + (a &&& 5)) + 16 * t1 n R := by
  unfold t1
  have e : (a + 16 * R) / 2 = (a / 2 + 8 * (R % 2)) + 16 * (R / 2) := by omega
  have h1 := and_digit 4 (a / 2 + 8 * (R % 2)) (R / 2) 5 (mask 4 5 n) (by omega) (by omega)
  have h2 := and_digit 4 a R 5 (mask 4 5 n) (by omega) (by omega)
  have h3 : ∀ a, a < 16 → ∀ r, r < 2 → (a / 2 + 8 * r) &&& 5 = a / 2 &&& 5 := by decide
  rw [show (2 : Nat) ^ 4 = 16 by rfl] at h1 h2
  rw [e, mask, show (2 : Nat) ^ 4 = 16 by rfl, h1, h2, h3 a ha (R % 2) (by omega)]
  omega
theorem t2_digit (n a R : Nat) (ha : a < 16) : t2 (n + 1) (a + 16 * R) = ((a / 4 &&& 3) + (a &&& 3)) + 16 * t2 n R := by
  unfold t2
  have e : (a + 16 * R) / 4 = (a / 4 + 4 * (R % 4)) + 16 * (R / 4) := by omega
  have h1 := and_digit 4 (a / 4 + 4 * (R % 4)) (R / 4) 3 (mask 4 3 n) (by omega) (by omega)
  have h2 := and_digit 4 a R 3 (mask 4 3 n) (by omega) (by omega)
  have h3 : ∀ a, a < 16 → ∀ r, r < 4 → (a / 4 + 4 * r) &&& 3 = a / 4 &&& 3 := by decide
  rw [show (2 : Nat) ^ 4 = 16 by rfl] at h1 h2
  rw [e, mask, show (2 : Nat) ^ 4 = 16 by rfl, h1, h2, h3 a ha (R % 4) (by omega)]
  omega
/-- the bits of each of n digits, as a number's digits -/
def pd : Nat → Nat → Nat
  | 0, _ => 0
  | n + 1, x => pcN 4 (x % 16) + 16 * pd n (x / 16)
theorem two_steps (n : Nat) : ∀ x, x < 16 ^ n → t2 n (t1 n x) = pd n x := by
  induction n with
  | zero => intro x hx; simp [t1, t2, mask, pd]
  | succ n ih =>
    intro x hx
    have hx2 : x / 16 < 16 ^ n := by rw [Nat.pow_succ] at hx; omega
    have e : x = x % 16 + 16 * (x / 16) := by omega
    have key : ∀ a, a < 16 → ((a / 2 &&& 5) + (a &&& 5)) < 16 ∧ ((((a / 2 &&& 5) + (a &&& 5)) / 4 &&& 3) + (((a / 2 &&& 5) + (a &&& 5)) &&& 3)) = pcN 4 a := by decide
    obtain ⟨k1, k2⟩ := key (x % 16) (by omega)
    rw [pd]
    conv => lhs; rw [e]
    rw [t1_digit n _ _ (by omega), t2_digit n _ _ k1, ih _ hx2, k2]
theorem pcN_digits (n : Nat) : ∀ x, pcN (4 * (n + 1)) x = pcN 4 (x % 16) + pcN (4 * n) (x / 16) := by
  intro x
  have e : 4 * (n + 1) = 4 * n + 1 + 1 + 1 + 1 := by omega
  rw [e]
  simp only [pcN]
  have a1 : x / 2 / 2 / 2 / 2 = x / 16 := by omega
  rw [a1]
  omega
theorem pc4_le (a : Nat) : pcN 4 a ≤ 4 := by simp only [pcN]; omega
/-- the third step, byte by byte -/
def t3 (n y : Nat) : Nat := (y / 16 + y) &&& mask 8 15 n
/-- the bits of each of n bytes, as a number's bytes -/
def qd : Nat → Nat → Nat
  | 0, _ => 0
  | n + 1, x => pcN 8 (x % 256) + 256 * qd n (x / 256)
theorem pd_low (n x : Nat) : pd n x % 16 ≤ 4 := by
  cases n with
  | zero => simp [pd]
  | succ n => rw [pd]; have := pc4_le (x % 16); omega
theorem pc8_eq (x : Nat) : pcN 8 (x % 256) = pcN 4 (x % 16) + pcN 4 (x / 16 % 16) := by
  simp only [pcN]; omega
theorem third_step (n : Nat) : ∀ x, t3 n (pd (2 * n) x) = qd n x := by
  induction n with
  | zero => intro x; simp [t3, mask, qd]
  | succ n ih =>
    intro x
    rw [show 2 * (n + 1) = 2 * n + 1 + 1 by omega, pd, pd, qd, ← ih, pc8_eq]
    have h1 := pc4_le (x % 16)
    have h2 := pc4_le (x / 16 % 16)
    have h3 := pd_low (2 * n) (x / 256)
    rw [show x / 16 / 16 = x / 256 by omega]
    generalize pcN 4 (x % 16) = p at h1 ⊢
    generalize pcN 4 (x / 16 % 16) = q at h2 ⊢
    generalize pd (2 * n) (x / 256) = R at h3 ⊢
    unfold t3
    have e : (p + 16 * (q + 16 * R)) / 16 + (p + 16 * (q + 16 * R)) = (q + p + 16 * (q + R % 16)) + 256 * (R / 16 + R) := by omega
    have k1 := and_digit 8 (q + p + 16 * (q + R % 16)) (R / 16 + R) 15 (mask 8 15 n) (by omega) (by omega)
    rw [show (2 : Nat) ^ 8 = 256 by rfl] at k1
    rw [e, mask, show (2 : Nat) ^ 8 = 256 by rfl, k1, Nat.and_two_pow_sub_one_eq_mod _ 4]
    omega
theorem pcN_bytes (n : Nat) (x : Nat) : pcN (8 * (n + 1)) x = pcN 8 (x % 256) + pcN (8 * n) (x / 256) := by
  have h1 := pcN_digits (2 * n + 1) x
  have h2 := pcN_digits (2 * n) (x / 16)
  rw [show 4 * (2 * n + 1 + 1) = 8 * (n + 1) by omega] at h1
  rw [show 4 * (2 * n) = 8 * n by omega, show x / 16 / 16 = x / 256 by omega] at h2
  rw [h1, h2, pc8_eq]; omega
theorem pc8_mod (y : Nat) : pcN 8 y = pcN 8 (y % 256) := by
  rw [pc8_eq]
  have := pcN_digits 1 y
  rw [show 4 * (1 + 1) = 8 by rfl, show 4 * 1 = 4 by rfl] at this
  rw [this]
  congr 1
  simp only [pcN]; omega
theorem pc8_le (a : Nat) : pcN 8 a ≤ 8 := by simp only [pcN]; omega
theorem pd_lt (n : Nat) : ∀ x, 15 * pd n x ≤ 4 * (16 ^ n - 1) := by
  induction n with
  | zero => intro x; simp [pd]
  | succ n ih =>
    intro x
    rw [pd, Nat.pow_succ]
    have h1 := pc4_le (x % 16)
    have h2 := ih (x / 16)
    have h3 : 0 < 16 ^ n := Nat.pow_pos (by decide)
    omega
/-- the last steps: the bytes are added up -/
theorem last_core (q0 q1 q2 q3 q4 q5 q6 q7 : Nat) (b0 : q0 ≤ 8) (b1 : q1 ≤ 8) (b2 : q2 ≤ 8) (b3 : q3 ≤ 8) (b4 : q4 ≤ 8) (b5 : q5 ≤ 8) (b6 : q6 ≤ 8) (b7 : q7 ≤ 8) (z : Nat) (hz : z = q0 + 256 * (q1 + 256 * (q2 + 256 * (q3 + 256 * (q4 + 256 * (q5 + 256 * (q6 + 256 * (q7 + 256 * 0)))))))) :
    ((z / 256 + z) / 65536 + (z / 256 + z)) / 4294967296 + ((z / 256 + z) / 65536 + (z / 256 + z)) < 2 ^ 63 ∧ (((z / 256 + z) / 65536 + (z / 256 + z)) / 4294967296 + ((z / 256 + z) / 65536 + (z / 256 + z))) % 128 = q0 + (q1 + (q2 + (q3 + (q4 + (q5 + (q6 + q7)))))) := by
  have e1 : z / 256 = q1 + 256 * (q2 + 256 * (q3 + 256 * (q4 + 256 * (q5 + 256 * (q6 + 256 * q7))))) := by omega
  generalize hy : z / 256 + z = y
  have e2 : y = (q0 + q1) + 256 * ((q1 + q2) + 256 * ((q2 + q3) + 256 * ((q3 + q4) + 256 * ((q4 + q5) + 256 * ((q5 + q6) + 256 * ((q6 + q7) + 256 * q7)))))) := by omega
  clear hy e1 hz
  have e3 : y / 65536 = (q2 + q3) + 256 * ((q3 + q4) + 256 * ((q4 + q5) + 256 * ((q5 + q6) + 256 * ((q6 + q7) + 256 * q7)))) := by omega
  generalize hu : y / 65536 + y = u
  have e4 : u = (q0 + q1 + q2 + q3) + 256 * ((q1 + q2 + q3 + q4) + 256 * ((q2 + q3 + q4 + q5) + 256 * ((q3 + q4 + q5 + q6) + 256 * ((q4 + q5 + q6 + q7) + 256 * ((q5 + q6 + q7) + 256 * ((q6 + q7) + 256 * q7)))))) := by omega
  clear hu e3 e2
  have e5 : u / 4294967296 = (q4 + q5 + q6 + q7) + 256 * ((q5 + q6 + q7) + 256 * ((q6 + q7) + 256 * q7)) := by omega
  omega
theorem last_steps (x : Nat) : ((qd 8 x / 256 + qd 8 x) / 65536 + (qd 8 x / 256 + qd 8 x)) / 4294967296 + ((qd 8 x / 256 + qd 8 x) / 65536 + (qd 8 x / 256 + qd 8 x)) < 2 ^ 63 ∧ (((qd 8 x / 256 + qd 8 x) / 65536 + (qd 8 x / 256 + qd 8 x)) / 4294967296 + ((qd 8 x / 256 + qd 8 x) / 65536 + (qd 8 x / 256 + qd 8 x))) % 128 = pcN 64 x := by
  have hp : pcN 64 x = pcN 8 (x % 256) + (pcN 8 (x / 256 % 256) + (pcN 8 (x / 256 / 256 % 256) + (pcN 8 (x / 256 / 256 / 256 % 256) + (pcN 8 (x / 256 / 256 / 256 / 256 % 256) + (pcN 8 (x / 256 / 256 / 256 / 256 / 256 % 256) + (pcN 8 (x / 256 / 256 / 256 / 256 / 256 / 256 % 256) + pcN 8 (x / 256 / 256 / 256 / 256 / 256 / 256 / 256 % 256))))))) := by
    have h := pcN_bytes
    have a7 := h 7 x
    have a6 := h 6 (x / 256)
    have a5 := h 5 (x / 256 / 256)
    have a4 := h 4 (x / 256 / 256 / 256)
    have a3 := h 3 (x / 256 / 256 / 256 / 256)
    have a2 := h 2 (x / 256 / 256 / 256 / 256 / 256)
    have a1 := h 1 (x / 256 / 256 / 256 / 256 / 256 / 256)
    have a0 := pc8_mod (x / 256 / 256 / 256 / 256 / 256 / 256 / 256)
    simp only [Nat.reduceAdd, Nat.reduceMul] at a7 a6 a5 a4 a3 a2 a1
    rw [a7, a6, a5, a4, a3, a2, a1, a0]
  rw [hp]
  exact last_core _ _ _ _ _ _ _ _ (pc8_le _) (pc8_le _) (pc8_le _) (pc8_le _) (pc8_le _) (pc8_le _) (pc8_le _) (pc8_le _) (qd 8 x) rfl
theorem and_127 (u : Nat) : bits .and .i64 (u : Int) 127 = ((u % 128 : Nat) : Int) := by
  rw [i64_and127]; omega
theorem ones_eq (x : Nat) (hx : x < 2 ^ 64) : bits_OnesCount64.f (x : Int) = some ((posL x).length : Int) := by
  have m1 : mask 4 5 16 = 6148914691236517205 := by decide
  have m2 : mask 4 3 16 = 3689348814741910323 := by decide
  have m3 : mask 8 15 8 = 1085102592571150095 := by decide
  have ad : ∀ (y m : Nat), y < 2 ^ 64 → m < 2 ^ 64 → bits .and .u64 (y : Int) (m : Int) = ((y &&& m : Nat) : Int) := fun y m h1 h2 => and_u y m h1 h2
  have le : ∀ y m : Nat, y &&& m ≤ m := fun y m => Nat.and_le_right
  have s1 : IntKind.u64.wrap ((bits .and .u64 ((x : Int) / 2) 6148914691236517205) + (bits .and .u64 (x : Int) 6148914691236517205)) = ((t1 16 x : Nat) : Int) := by
    have a1 := ad (x / 2) 6148914691236517205 (by omega) (by decide)
    have a2 := ad x 6148914691236517205 hx (by decide)
    have b1 := le (x / 2) 6148914691236517205
    have b2 := le x 6148914691236517205
    unfold t1
    rw [m1]
    rw [show ((x : Int) / 2) = ((x / 2 : Nat) : Int) by omega]
    rw [show (6148914691236517205 : Int) = ((6148914691236517205 : Nat) : Int) from rfl, a1, a2, u64_wr _ (by omega) (by omega)]
    omega
  have y1 : t1 16 x < 2 ^ 64 := by
    have b1 := le (x / 2) 6148914691236517205
    have b2 := le x 6148914691236517205
    unfold t1
    rw [m1]
    omega
  have s2 : IntKind.u64.wrap ((bits .and .u64 (((t1 16 x : Nat) : Int) / 4) 3689348814741910323) + (bits .and .u64 ((t1 16 x : Nat) : Int) 3689348814741910323)) = ((pd 16 x : Nat) : Int) := by
    rw [← two_steps 16 x (by simpa using hx)]
    generalize t1 16 x = y at y1
    have a1 := ad (y / 4) 3689348814741910323 (by omega) (by decide)
    have a2 := ad y 3689348814741910323 y1 (by decide)
    have b1 := le (y / 4) 3689348814741910323
    have b2 := le y 3689348814741910323
    unfold t2
    rw [m2]
    rw [show ((y : Int) / 4) = ((y / 4 : Nat) : Int) by omega]
    rw [show (3689348814741910323 : Int) = ((3689348814741910323 : Nat) : Int) from rfl, a1, a2, u64_wr _ (by omega) (by omega)]
    omega
  have y2 := pd_lt 16 x
  have s3 : bits .and .u64 (IntKind.u64.wrap (((pd 16 x : Nat) : Int) / 16 + ((pd 16 x : Nat) : Int))) 1085102592571150095 = ((qd 8 x : Nat) : Int) := by
    rw [← third_step 8 x, show 2 * 8 = 16 by rfl]
    simp only [Nat.reducePow, Nat.reduceSub, Nat.reduceMul] at y2
    generalize pd 16 x = y at y2
    have a1 := ad (y / 16 + y) 1085102592571150095 (by omega) (by decide)
    unfold t3
    rw [m3]
    rw [u64_wr _ (by omega) (by omega), ← a1]
    congr 1
  have l := last_steps x
  unfold bits_OnesCount64.f
  rw [s1, s2, s3, pos_len]
  rw [← l.2]
  have l1 := l.1
  generalize qd 8 x = z at l1
  have w1 : IntKind.u64.wrap ((z : Int) + (z : Int) / 256) = ((z / 256 + z : Nat) : Int) := by rw [u64_wr _ (by omega) (by omega)]; omega
  rw [w1]
  generalize z / 256 + z = y at l1
  have w2 : IntKind.u64.wrap ((y : Int) + (y : Int) / 65536) = ((y / 65536 + y : Nat) : Int) := by rw [u64_wr _ (by omega) (by omega)]; omega
  rw [w2]
  generalize y / 65536 + y = u at l1
  have w3 : IntKind.u64.wrap ((u : Int) + (u : Int) / 4294967296) = ((u / 4294967296 + u : Nat) : Int) := by rw [u64_wr _ (by omega) (by omega)]; omega
  rw [w3]
  have w4 : wrap64 ((u / 4294967296 + u : Nat) : Int) = ((u / 4294967296 + u : Nat) : Int) := by unfold wrap64; omega
  rw [w4, and_127 _]
end Go.Proofs.YtcnlmpjoghogbaaDoor.Ag
namespace Go.Proofs.YtcnlmpjoghogbaaDoor.Ag
open Go.RowKit Go.Proofs.YtcnlmpjoghogbaaDoor.PAll Go.Proofs.YtcnlmpjoghogbaaDoor.Xw Go.Proofs.YtcnlmpjoghogbaaDoorW.PrintWords Go.Proofs.YtcnlmpjoghogbaaDoorW.PrintLast Go.Proofs.YtcnlmpjoghogbaaDoorW.PrintMore
attribute [local go_sem ↓] ldArr_eq
theorem word_count (k n : Nat) : (wordL k n).length = (posL n).length := by unfold wordL; rw [List.length_map]
set_option maxRecDepth 100000 in
set_option maxHeartbeats 4000000 in
theorem len_calls (f : Nat → Int) (hU : InU f) (w : World) : Calls Tryd.prog 16 #[.agg (agC .u64 65 f)] w fun e w' => e = .returned (.int .i64 ((allF f).length : Nat)) ∧ Below w.heap.size w w' := by
  have L := (show Holds w.heap.size f (w.alloc (.cells (agC .u64 65 f) 27 (0, 0))) from blk_new w _).ldA
  have HB := Aside0.mk (below_alloc (Below.refl w.heap.size w) (.cells (agC .u64 65 f) 27 (0, 0)))
  have hal := all_len f
  obtain ⟨N, hN⟩ : ∃ N, (allF f).length = N := ⟨_, rfl⟩
  rw [hN]
  replace hN := Aside0.mk hN
  go_enter Tryd.func16, Tryd.ntmps16
  go_wp2_with (fail)
  go_loopg [3, 5, 8] 65 (fun gg s3 _ s8 wr => ∃ (k c : Nat), k ≤ 65 ∧ 65 - k ≤ gg ∧ s8 = .int .i64 k ∧ s3 = .int .i64 c ∧ (allF f).length = c + (restF f (65 - k) k).length ∧ Aside0 (Below w.heap.size w wr))
  case atStart => exact ⟨0, 0, by omega, by omega, rfl, rfl, by simp [allF], HB⟩
  case round =>
    clear HB
    obtain ⟨k, c, hk, hg, rfl, rfl, hx, HB⟩ := hrel
    by_cases hlt : k < 65
    · have hltz : (k : Int) < 65 := by omega
      have hidx := idx_row f k hlt
      obtain ⟨m, hfm, hm⟩ := hU k
      rw [hfm] at hidx
      have hx2 : (allF f).length = (c + (posL m).length) + (restF f (65 - (k + 1)) (k + 1)).length := by
        rw [hx, show 65 - k = (65 - (k + 1)) + 1 by omega, restF, hfm, Int.toNat_natCast, List.length_append, word_count]; omega
      have hon := bits_OnesCount64.calls (m : Int) _ wr (ones_eq m hm)
      have hp : (posL m).length ≤ 4160 := by omega
      have hc : c ≤ 4160 := by omega
      replace hx2 := Aside0.mk hx2
      replace hon := Aside0.mk hon
      clear hx hfm
      generalize (posL m).length = q at hx2 hon hp
      have hp1 : (q : Int) ≤ 4160 := by omega
      have hc1 : (c : Int) ≤ 4160 := by omega
      go_wp2_with (fail)
      refine hon.out.mono ?_
      rintro e w' ⟨rfl, hd⟩
      dsimp only
      have HB2 := Aside0.mk (below_step HB.out hd.below)
      clear HB hd hon
      go_wp2_with (fail)
      go_roundg (65 - (k + 1))
      case measure => omega
      case rel => exact ⟨k + 1, c + q, by omega, by omega, by go_num, by go_num, hx2.out, HB2⟩
    · obtain rfl : k = 65 := by omega
      have hltz : ¬ ((65 : Nat) : Int) < 65 := by omega
      obtain rfl : N = c := by rw [← hN.out, hx]; simp [restF]
      clear hx hg hk hlt hN
      go_wp2_with (fail)
      go_ret
      exact ⟨rfl, HB.out⟩
end Go.Proofs.YtcnlmpjoghogbaaDoor.Ag
namespace Go.Proofs.YtcnlmpjoghogbaaDoor.Ag
open Go.RowKit Go.Proofs.YtcnlmpjoghogbaaDoor.Xw Go.Proofs.YtcnlmpjoghogbaaDoorW.PrintWords Go.Proofs.YtcnlmpjoghogbaaDoorW.PrintLast Go.Proofs.YtcnlmpjoghogbaaDoorW.PrintMore
def withoutF (f : Nat → Int) (i : Int) : Nat → Int := if 0 ≤ i ∧ i ≤ 4096 then putF f (i.toNat / 64) (bits .andNot .u64 (f (i.toNat / 64)) (IntKind.u64.wrap (2 ^ (i.toNat % 64)))) else f
set_option maxHeartbeats 4000000 in
set_option maxRecDepth 100000 in
theorem without_calls (f : Nat → Int) (i : Int) (w : World) : Calls Tryd.prog 19 #[.agg (agC .u64 65 f), .int .i64 i] w fun e w' => e = .returned (.agg (agC .u64 65 (withoutF f i))) ∧ Below w.heap.size w w' := by
  have BK1 := blk_alloc (blk_new w (.cells (agC .u64 65 f) 27 (0, 0))) (.cells Tryd.zeroCells27 27 (0, 0))
  have BK2 := blk_new (w.alloc (.cells (agC .u64 65 f) 27 (0, 0))) (.cells Tryd.zeroCells27 27 (0, 0))
  have HB := below_alloc (below_alloc (Below.refl w.heap.size w) (.cells (agC .u64 65 f) 27 (0, 0))) (.cells Tryd.zeroCells27 27 (0, 0))
  rw [alloc_size] at BK2
  have BK1 := Aside0.mk BK1
  have BK2 := Aside0.mk BK2
  have HB := Aside0.mk HB
  by_cases h : 0 ≤ i ∧ i ≤ 4096
  · have hm : decide (0 ≤ i ∧ i ≤ 4096) = true := decide_eq_true h
    obtain ⟨q, r, hq, hr, hq1, hr1, hi⟩ := qr i h.1 h.2
    have hv : withoutF f i = putF f q (bits .andNot .u64 (f q) (IntKind.u64.wrap (2 ^ r))) := by
      have e1 : i.toNat / 64 = q := by omega
      have e2 : i.toNat % 64 = r := by omega
      unfold withoutF; rw [if_pos h, e1, e2]
    rw [hv]
    clear hi h hv
    generalize hf2 : putF f q (bits .andNot .u64 (f q) (IntKind.u64.wrap (2 ^ r))) = f2
    have hf2 := Aside0.mk hf2
    go_enter Tryd.func19, Tryd.ntmps19
    go_wp2_with (fail)
    refine (may_calls i _).mono ?_
    rintro e w' ⟨rfl, rfl⟩
    rw [hm]
    dsimp only
    go_wp2_with (fail)
    generalize (w.alloc (.cells (agC .u64 65 f) 27 (0, 0))).alloc (.cells Tryd.zeroCells27 27 (0, 0)) = w1 at BK1 BK2 HB ⊢
    have hc := blk_cell BK1.out q
    rw [agC_get _ _ _ _ hq1] at hc
    have hfz := blk_frozen BK1.out q
    go_region
    have BK3 := blk_drew (blk_set BK1.out q (Value.int IntKind.u64 (bits BinOp.andNot IntKind.u64 (f q) (IntKind.u64.wrap (2 ^ r)))))
    have BK4 := blk_drew (blk_far BK2.out (p := ⟨w.heap.size, q, none⟩) (by show w.heap.size + 1 ≠ w.heap.size; omega) (Value.int IntKind.u64 (bits BinOp.andNot IntKind.u64 (f q) (IntKind.u64.wrap (2 ^ r)))))
    have HB2 := below_drew (below_set (j := q) (v := Value.int IntKind.u64 (bits BinOp.andNot IntKind.u64 (f q) (IntKind.u64.wrap (2 ^ r)))) HB.out (Nat.le_refl _))
    rw [agC_set, hf2.out] at BK3
    generalize (w1.setCell ⟨w.heap.size, q, none⟩ (Value.int IntKind.u64 (bits BinOp.andNot IntKind.u64 (f q) (IntKind.u64.wrap (2 ^ r))))).drew = w2 at BK3 BK4 HB2 ⊢
    clear BK1 BK2 HB hc hfz
    have BK3 := Aside0.mk BK3
    have BK4 := Aside0.mk BK4
    have HB2 := Aside0.mk HB2
    go_wp2_with (first | ((with_reducible refine gate_dst (N := 18) rfl ?_); refine row_load rfl 27 (.tmp 2) rfl w.heap.size rfl .u64 65 f2 27 _ BK3.out Tryd.underlying27 rfl info_map ?_) | ((with_reducible refine gate_store (t := 27) (p := 4) rfl ?_); refine row_store rfl 27 (.tmp 4) (.tmp 18) rfl rfl (w.heap.size + 1) rfl .u64 65 f2 rfl _ 27 BK4.out info_map (by rw [zero_map, agC_size]) ?_; intro w3 BK5 BK6 HB3))
    refine bodyPost_ret (v := .agg (agC .u64 65 f2)) (results_cell_row (p := 4) (ty := 27) Tryd.results19 _ _ (w.heap.size + 1) 27 _ (0, 0) _ rfl BK5 Tryd.underlying27 rfl (by rw [info_map, agC_size])) rfl ⟨rfl, HB3 _ _ HB2.out (by omega)⟩
  · have hm : decide (0 ≤ i ∧ i ≤ 4096) = false := decide_eq_false h
    have hv : withoutF f i = f := by unfold withoutF; rw [if_neg h]
    rw [hv]
    clear hv h
    go_enter Tryd.func19, Tryd.ntmps19
    go_wp2_with (fail)
    refine (may_calls i _).mono ?_
    rintro e w' ⟨rfl, rfl⟩
    rw [hm]
    dsimp only
    generalize (w.alloc (.cells (agC .u64 65 f) 27 (0, 0))).alloc (.cells Tryd.zeroCells27 27 (0, 0)) = w2 at BK1 BK2 HB ⊢
    have BK3 := BK1
    have BK4 := BK2
    have HB2 := HB
    clear BK1 BK2 HB
    go_wp2_with (first | ((with_reducible refine gate_dst (N := 18) rfl ?_); refine row_load rfl 27 (.tmp 2) rfl w.heap.size rfl .u64 65 f 27 _ BK3.out Tryd.underlying27 rfl info_map ?_) | ((with_reducible refine gate_store (t := 27) (p := 4) rfl ?_); refine row_store rfl 27 (.tmp 4) (.tmp 18) rfl rfl (w.heap.size + 1) rfl .u64 65 f rfl _ 27 BK4.out info_map (by rw [zero_map, agC_size]) ?_; intro w3 BK5 BK6 HB3))
    refine bodyPost_ret (v := .agg (agC .u64 65 f)) (results_cell_row (p := 4) (ty := 27) Tryd.results19 _ _ (w.heap.size + 1) 27 _ (0, 0) _ rfl BK5 Tryd.underlying27 rfl (by rw [info_map, agC_size])) rfl ⟨rfl, HB3 _ _ HB2.out (by omega)⟩
end Go.Proofs.YtcnlmpjoghogbaaDoor.Ag
namespace Go.Proofs.YtcnlmpjoghogbaaDoor.Ag
open Go.RowKit
theorem andnot_u (a b : Nat) (ha : a < 2 ^ 64) (hb : b < 2 ^ 64) : bits .andNot .u64 (a : Int) (b : Int) = ((a &&& (2 ^ 64 - (b + 1)) : Nat) : Int) := by
  have h1 : (BitVec.ofInt 64 (a : Int)).toNat = a := by
    rw [BitVec.ofInt_natCast, BitVec.toNat_ofNat]; exact Nat.mod_eq_of_lt ha
  have h2 : (BitVec.ofInt 64 (b : Int)).toNat = b := by
    rw [BitVec.ofInt_natCast, BitVec.toNat_ofNat]; exact Nat.mod_eq_of_lt hb
  have hx : a &&& (2 ^ 64 - (b + 1)) < 2 ^ 64 := Nat.lt_of_le_of_lt Nat.and_le_left ha
  show IntKind.u64.wrap ((BitVec.ofInt 64 (a : Int) &&& ~~~ BitVec.ofInt 64 (b : Int)).toNat : Int) = _
  rw [BitVec.toNat_and, BitVec.toNat_not, h1, h2, show 2 ^ 64 - 1 - b = 2 ^ 64 - (b + 1) by omega]
  exact u64_wr _ (Int.natCast_nonneg _) (by exact_mod_cast hx)
theorem without_eq (f : Nat → Int) (hU : InU f) (i : Int) (h : 0 ≤ i ∧ i ≤ 4096) : withoutF f i = putF f (i.toNat / 64) (((f (i.toNat / 64)).toNat &&& (2 ^ 64 - (2 ^ (i.toNat % 64) + 1)) : Nat) : Int) := by
  obtain ⟨n, e, hn⟩ := hU (i.toNat / 64)
  have h2 := two_lt (i.toNat % 64) (Nat.mod_lt _ (by decide))
  unfold withoutF
  rw [if_pos h, e, two_cast, u64_wr _ (Int.natCast_nonneg _) (by exact_mod_cast h2), andnot_u _ _ hn h2, Int.toNat_natCast]
theorem withoutU (f : Nat → Int) (hU : InU f) (i : Int) : InU (withoutF f i) := by
  by_cases h : 0 ≤ i ∧ i ≤ 4096
  · rw [without_eq f hU i h]
    intro j
    unfold putF
    obtain ⟨n, e, hn⟩ := hU (i.toNat / 64)
    split
    · refine ⟨_, rfl, Nat.lt_of_le_of_lt Nat.and_le_left ?_⟩
      rw [e, Int.toNat_natCast]; exact hn
    · exact hU j
  · unfold withoutF; rw [if_neg h]; exact hU
theorem bit_without (f : Nat → Int) (hU : InU f) (i : Int) (j : Nat) : bitF (withoutF f i) j = (bitF f j && !(decide (0 ≤ i ∧ i ≤ 4096) && decide (i = j))) := by
  by_cases h : 0 ≤ i ∧ i ≤ 4096
  · unfold bitF
    rw [decide_eq_true h, Bool.true_and, without_eq f hU i h]
    unfold putF
    by_cases hq : j / 64 = i.toNat / 64
    · rw [if_pos hq, Int.toNat_natCast, Nat.testBit_and, Nat.testBit_two_pow_sub_succ (two_lt _ (Nat.mod_lt _ (by decide))), Nat.testBit_two_pow, hq, decide_eq_true (Nat.mod_lt j (by decide)), Bool.true_and]
      congr 2
      rw [decide_eq_decide]; omega
    · rw [if_neg hq, decide_eq_false (by omega), Bool.not_false, Bool.and_true]
  · unfold withoutF; rw [if_neg h, decide_eq_false h, Bool.false_and, Bool.not_false, Bool.and_true]
theorem eqF_refl (f : Nat → Int) : eqF 65 f f = true := (eqF_iff 65 f f).2 fun _ _ => rfl
theorem has_own (l : List Int) (i : Int) : hasF (ofF l) i = (decide (0 ≤ i ∧ i ≤ 4096) && decide (i ∈ l)) := has_of l i
theorem has_with_own (f : Nat → Int) (hU : InU f) (i : Int) : hasF (withF f i) i = decide (0 ≤ i ∧ i ≤ 4096) := by
  rw [has_with f hU i i, has_bit f hU]
  cases decide (0 ≤ i ∧ i ≤ 4096) <;> simp
theorem has_without_own (f : Nat → Int) (hU : InU f) (i : Int) : hasF (withoutF f i) i = false := by
  rw [has_bit _ (withoutU f hU i), bit_without f hU]
  by_cases h : 0 ≤ i ∧ i ≤ 4096
  · rw [decide_eq_true h, decide_eq_true (show i = (i.toNat : Int) by omega)]; simp
  · rw [decide_eq_false h]; rfl
theorem with_of (l : List Int) (i : Int) : withF (ofF l) i = ofF (l ++ [i]) := by
  unfold ofF; rw [List.foldl_append]; rfl
theorem without_not (l : List Int) (i : Int) (h : (decide (0 ≤ i ∧ i ≤ 4096) && decide (i ∈ l)) = false) : eqF 65 (withoutF (ofF l) i) (ofF l) = true := by
  rw [eqF_bits _ _ (withoutU _ (of_U l) i) (of_U l)]
  intro j _
  rw [bit_without _ (of_U l), bit_of]
  by_cases h0 : 0 ≤ i ∧ i ≤ 4096
  · rw [decide_eq_true h0, Bool.true_and] at h
    have hm := of_decide_eq_false h
    rw [decide_eq_true h0, Bool.true_and]
    by_cases hj : i = j
    · subst hj; simp [hm]
    · simp [hj]
  · rw [decide_eq_false h0]; simp
end Go.Proofs.YtcnlmpjoghogbaaDoor.Ag
namespace Go.Proofs.YtcnlmpjoghogbaaDoor.Pure
open Go.RowKit Go.Proofs.YtcnlmpjoghogbaaDoorW.PrintWords Go.Proofs.YtcnlmpjoghogbaaDoorW.PrintLast Go.Proofs.YtcnlmpjoghogbaaDoorW.PrintMore
theorem Ev.succ {α : Type} {g : Nat → Option α} {r : α} (h : Ev (fun k => g (k + 1)) r) : Ev g r := Ev.step (fun _ => rfl) h
theorem Ev.all {α : Type} {g : Nat → Option α} {r : α} (h : ∀ k, g k = some r) : Ev g r := ⟨0, fun k _ => h k⟩
theorem Ev.pos {α : Type} {g : Nat → Option α} {r : α} (h : ∀ k, g (k + 1) = some r) : Ev g r := ⟨1, fun k hk => by obtain ⟨j, rfl⟩ : ∃ j, k = j + 1 := ⟨k - 1, by omega⟩; exact h j⟩
theorem wrap_id {x : Int} (h : -9223372036854775808 ≤ x ∧ x ≤ 9223372036854775807) : wrap64 x = x := by unfold wrap64; omega
theorem mn_eq (a b : Int) : mn a b = min a b := by unfold mn; split <;> omega
theorem mx_eq (a b : Int) : mx a b = max a b := by unfold mx; split <;> omega
end Go.Proofs.YtcnlmpjoghogbaaDoor.Pure
namespace Go.Proofs.YtcnlmpjoghogbaaDoor.Ag
open Go.RowKit
/-- the numbers of a list that may be, rising, each once -/
def srt (l : List Int) : List Int := ((List.range 4097).filter fun i : Nat => decide ((i : Int) ∈ l)).map fun i : Nat => (i : Int)
theorem word_filter (f : Nat → Int) (k : Nat) : wordL k (f k).toNat = ((List.range' (64 * k) 64).filter (bitF f)).map fun i : Nat => (i : Int) := by
  have e : List.range' (64 * k) 64 = (List.range 64).map fun i => 64 * k + i := by rw [List.range_eq_range', List.map_add_range']; rfl
  rw [e, List.filter_map, List.map_map]
  unfold wordL posL
  have h1 : (List.range 64).filter (bitF f ∘ fun i => 64 * k + i) = (List.range 64).filter (f k).toNat.testBit := by
    refine List.filter_congr fun a ha => ?_
    have := List.mem_range.1 ha
    show bitF f (64 * k + a) = _
    unfold bitF
    rw [show (64 * k + a) / 64 = k by omega, show (64 * k + a) % 64 = a by omega]
  rw [h1]
  refine List.map_congr_left fun a _ => ?_
  show ((k * 64 + a : Nat) : Int) = ((64 * k + a : Nat) : Int)
  rw [Nat.mul_comm]
theorem rest_filter (f : Nat → Int) : ∀ d k, restF f d k = ((List.range' (64 * k) (64 * d)).filter (bitF f)).map fun i : Nat => (i : Int)
  | 0, k => by simp [restF]
  | d + 1, k => by
    rw [restF, rest_filter f d (k + 1), word_filter, ← List.map_append, ← List.filter_append]
    have := @List.range'_append_1 (64 * k) 64 (64 * d)
    rw [show 64 * (d + 1) = 64 + 64 * d by omega, show 64 * (k + 1) = 64 * k + 64 by omega, this]
theorem all_filter (f : Nat → Int) : allF f = ((List.range 4160).filter (bitF f)).map fun i : Nat => (i : Int) := by
  have h := rest_filter f 65 0
  rw [show 64 * 0 = 0 by rfl, show 64 * 65 = 4160 by rfl, ← List.range_eq_range'] at h
  exact h
theorem all_of (l : List Int) : allF (ofF l) = srt l := by
  rw [all_filter]
  unfold srt
  refine congrArg (List.map fun i : Nat => (i : Int)) ?_
  have e : List.range 4160 = List.range 4097 ++ List.range' 4097 63 := by
    rw [List.range_eq_range', List.range_eq_range']
    have := @List.range'_append_1 0 4097 63
    rw [Nat.zero_add] at this
    exact this.symm
  rw [e, List.filter_append]
  have h1 : (List.range 4097).filter (bitF (ofF l)) = (List.range 4097).filter fun i : Nat => decide ((i : Int) ∈ l) := by
    refine List.filter_congr fun a ha => ?_
    rw [bit_of, decide_eq_true (by have := List.mem_range.1 ha; omega), Bool.true_and]
  have h2 : (List.range' 4097 63).filter (bitF (ofF l)) = [] := by
    rw [List.filter_eq_nil_iff]
    intro a ha
    have := (List.mem_range'_1.1 ha).1
    rw [bit_of, decide_eq_false (by omega)]
    simp
  rw [h1, h2, List.append_nil]
/-- the first i numbers looked at -/
def srtTo (l : List Int) (i : Nat) : List Int := ((List.range i).filter fun i : Nat => decide ((i : Int) ∈ l)).map fun i : Nat => (i : Int)
theorem srtTo_succ (l : List Int) (i : Nat) : srtTo l (i + 1) = srtTo l i ++ (if (i : Int) ∈ l then [(i : Int)] else []) := by
  unfold srtTo
  rw [List.range_succ, List.filter_append, List.map_append, List.filter_cons]
  congr 1
  by_cases h : (i : Int) ∈ l
  · simp [h]
  · simp [h]
theorem srtTo_full (l : List Int) : srtTo l 4097 = srt l := rfl
theorem sub_len : ∀ (s l : List Int), s.Nodup → (∀ x ∈ s, x ∈ l) → s.length ≤ l.length
  | [], l, _, _ => by simp
  | x :: s, l, hn, hs => by
    have hx := hs x List.mem_cons_self
    have h1 := sub_len s (l.erase x) (List.nodup_cons.1 hn).2 (fun y hy => by
      have hne : y ≠ x := fun e => (List.nodup_cons.1 hn).1 (e ▸ hy)
      exact (List.mem_erase_of_ne hne).2 (hs y (List.mem_cons_of_mem _ hy)))
    rw [List.length_erase_of_mem hx] at h1
    have := List.length_pos_of_mem hx
    rw [List.length_cons]; omega
theorem srtTo_mem (l : List Int) (i : Nat) (x : Int) : x ∈ srtTo l i ↔ x ∈ l ∧ 0 ≤ x ∧ x < i := by
  unfold srtTo
  simp only [List.mem_map, List.mem_filter, List.mem_range, decide_eq_true_eq]
  constructor
  · rintro ⟨j, ⟨h1, h2⟩, rfl⟩; exact ⟨h2, by omega, by omega⟩
  · rintro ⟨h1, h2, h3⟩; exact ⟨x.toNat, ⟨by omega, by rw [Int.toNat_of_nonneg h2]; exact h1⟩, by omega⟩
theorem srtTo_nodup (l : List Int) (i : Nat) : (srtTo l i).Nodup := by
  induction i with
  | zero => simp [srtTo]
  | succ i ih =>
    rw [srtTo_succ]
    split
    · rw [List.nodup_append]
      refine ⟨ih, by simp, fun a ha b hb => ?_⟩
      have := (srtTo_mem l i a).1 ha
      rw [List.mem_singleton] at hb
      omega
    · simpa using ih
/-- all were found: no more comes -/
theorem srtTo_stop (l : List Int) (i : Nat) (hi : i ≤ 4097) (h : l.length ≤ (srtTo l i).length) : srtTo l i = srt l := by
  have key : ∀ d, i + d ≤ 4097 → srtTo l (i + d) = srtTo l i := by
    intro d
    induction d with
    | zero => intro _; rfl
    | succ d ih =>
      intro hd
      rw [← Nat.add_assoc, srtTo_succ, ih (by omega), if_neg, List.append_nil]
      intro hm
      have h1 := srtTo_nodup l (i + d + 1)
      have h2 := sub_len _ l h1 (fun x hx => ((srtTo_mem l _ x).1 hx).1)
      rw [srtTo_succ, if_pos hm, ih (by omega), List.length_append] at h2
      simp at h2
      omega
  rw [← srtTo_full, show 4097 = i + (4097 - i) by omega, key _ (by omega)]
end Go.Proofs.YtcnlmpjoghogbaaDoor.Ag
namespace Go.Proofs.YtcnlmpjoghogbaaDoor.PAll
open Go.RowKit Go.Proofs.YtcnlmpjoghogbaaDoor.Xw Go.Proofs.YtcnlmpjoghogbaaDoorW.PrintWords Go.Proofs.YtcnlmpjoghogbaaDoorW.PrintLast Go.Proofs.YtcnlmpjoghogbaaDoorW.PrintMore
attribute [local go_sem] max2_int min2_int max_two min_two max_three min_three max_four min_four   -- for this text's walks alone
set_option linter.unusedVariables false
set_option linter.unusedSimpArgs false
theorem eqA50 (d : Nat) (w : World) (x0 y0 : Int) (x1 y1 : Int) (x2 y2 : Bool) :
    (Op.equalIn (d + 2) 50 (.agg #[.int .i64 x0, .int .i64 x1, .bool x2]) (.agg #[.int .i64 y0, .int .i64 y1, .bool y2])).run Tryd.prog w = .ok (x0 == y0 && (x1 == y1 && (x2 == y2))) w := by
  refine eqA_of Tryd.underlying50 (by kernel_rfl) ?_
  refine eqf_cons (by rfl) (by go_simp; rfl) (by go_simp; rfl) (by go_simp) ?_
  refine eqf_cons (by rfl) (by go_simp; rfl) (by go_simp; rfl) (by go_simp) ?_
  exact eqf_last (by rfl) (by go_simp; rfl) (by go_simp; rfl) (by go_simp)
end Go.Proofs.YtcnlmpjoghogbaaDoor.PAll
namespace Go.Proofs.YtcnlmpjoghogbaaDoor.PAll
open Go.RowKit Go.Proofs.YtcnlmpjoghogbaaDoor.Xw Go.Proofs.YtcnlmpjoghogbaaDoorW.PrintWords Go.Proofs.YtcnlmpjoghogbaaDoorW.PrintLast Go.Proofs.YtcnlmpjoghogbaaDoorW.PrintMore
attribute [local go_sem] max2_int min2_int max_two min_two max_three min_three max_four min_four   -- for this text's walks alone
set_option linter.unusedVariables false
set_option linter.unusedSimpArgs false
attribute [local go_sem high] eqA50
def spenceref24_Split.l0 : Nat → List Int → List (S50) → List Int → Int → Int → Option ((List (S50)))
  | 0, _, _, _, _, _ => none
  | k + 1, x1, x5, x11, x12, x13 => if x13 < x12 then (if 0 ≤ x13 then (if x13 < (x11.length : Int) then ((spenceref01_In.f k x1 (rd x11 x13)).bind fun t155 => (if (x5.length : Int) > 0 then (if 0 ≤ (wrap64 ((x5.length : Int) - 1)) then (if (wrap64 ((x5.length : Int) - 1)) < (x5.length : Int) then (if ((rd_T50 x5 (wrap64 ((x5.length : Int) - 1))).f1) = (rd x11 x13) then (if (((rd_T50 x5 (wrap64 ((x5.length : Int) - 1))).f2) == t155) = true then (spenceref24_Split.l0 k x1 (x5.set ((wrap64 ((x5.length : Int) - 1)) : Int).toNat (⟨(rd_T50 x5 (wrap64 ((x5.length : Int) - 1))).f0, wrap64 ((rd x11 x13) + 1), (rd_T50 x5 (wrap64 ((x5.length : Int) - 1))).f2⟩ : S50)) x11 x12 (wrap64 (x13 + 1))) else (if x5.length < 5864062014805 then (spenceref24_Split.l0 k x1 (x5 ++ [(⟨rd x11 x13, wrap64 ((rd x11 x13) + 1), t155⟩ : S50)]) x11 x12 (wrap64 (x13 + 1))) else (none))) else (if x5.length < 5864062014805 then (spenceref24_Split.l0 k x1 (x5 ++ [(⟨rd x11 x13, wrap64 ((rd x11 x13) + 1), t155⟩ : S50)]) x11 x12 (wrap64 (x13 + 1))) else (none))) else (none)) else (none)) else (if x5.length < 5864062014805 then (spenceref24_Split.l0 k x1 (x5 ++ [(⟨rd x11 x13, wrap64 ((rd x11 x13) + 1), t155⟩ : S50)]) x11 x12 (wrap64 (x13 + 1))) else (none)))) else (none)) else (none)) else (some x5)
def spenceref24_Split.f (k : Nat) (l0 : List Int) (l1 : List Int) : Option ((List (S50))) := (spenceref24_Sorted.f k l0).bind fun t151 => (spenceref24_Split.l0 k l1 ([] : List (S50)) t151 (t151.length : Int) 0)
theorem spenceref24_Split.mono_l : ∀ k, (∀ y0 y1 y2 y3 y4, LeO (spenceref24_Split.l0 k y0 y1 y2 y3 y4) (spenceref24_Split.l0 (k + 1) y0 y1 y2 y3 y4))
  | 0 => fun _ _ _ _ _ r h => by simp [spenceref24_Split.l0] at h
  | k + 1 => by
    have ih0 := spenceref24_Split.mono_l k
    · intro y0 y1 y2 y3 y4
      unfold spenceref24_Split.l0
      repeat' first
      | (with_reducible exact ih0 _ _ _ _ _)
      | (with_reducible exact spenceref01_In.mono _ _ _)
      | (with_reducible exact spenceref24_Sorted.mono _ _)
      | (with_reducible exact LeO.refl _)
      | (with_reducible exact LeO.none _)
      | (with_reducible refine LeO.ite ?_ ?_)
      | (with_reducible refine LeO.bind ?_ (fun _ => ?_))
      | exact ih0 _ _ _ _ _
      | exact spenceref01_In.mono _ _ _
      | exact spenceref24_Sorted.mono _ _
      | exact LeO.none _
      | refine LeO.ite ?_ ?_
      | refine LeO.bind ?_ (fun _ => ?_)
theorem spenceref24_Split.mono : ∀ a0 a1 k, LeO (spenceref24_Split.f k a0 a1) (spenceref24_Split.f (k + 1) a0 a1) := by
  intro a0 a1 k
  have ih0 := spenceref24_Split.mono_l k
  unfold spenceref24_Split.f
  repeat' first
      | (with_reducible exact ih0 _ _ _ _ _)
      | (with_reducible exact spenceref01_In.mono _ _ _)
      | (with_reducible exact spenceref24_Sorted.mono _ _)
      | (with_reducible exact LeO.refl _)
      | (with_reducible exact LeO.none _)
      | (with_reducible refine LeO.ite ?_ ?_)
      | (with_reducible refine LeO.bind ?_ (fun _ => ?_))
      | exact ih0 _ _ _ _ _
      | exact spenceref01_In.mono _ _ _
      | exact spenceref24_Sorted.mono _ _
      | exact LeO.none _
      | refine LeO.ite ?_ ?_
      | refine LeO.bind ?_ (fun _ => ?_)
def spenceref24_Runs.l0 : Nat → List (S50) → List (S50) → Int → Int → Option (Bool)
  | 0, _, _, _, _ => none
  | k + 1, x0, x1, x12, x13 => if x13 < x12 then (if 0 ≤ x13 then (if x13 < (x0.length : Int) then (if x13 < (x1.length : Int) then (if (!(((rd_T50 x0 x13).f0) == ((rd_T50 x1 x13).f0)) || (!(((rd_T50 x0 x13).f1) == ((rd_T50 x1 x13).f1)) || (!(((rd_T50 x0 x13).f2) == ((rd_T50 x1 x13).f2))))) = true then (some false) else (spenceref24_Runs.l0 k x0 x1 x12 (wrap64 (x13 + 1)))) else (none)) else (none)) else (none)) else (some true)
def spenceref24_Runs.f (k : Nat) (l0 : List (S50)) (l1 : List (S50)) : Option (Bool) := if (l0.length : Int) = (l1.length : Int) then (spenceref24_Runs.l0 k l0 l1 (l0.length : Int) 0) else (some false)
theorem spenceref24_Runs.mono_l : ∀ k, (∀ y0 y1 y2 y3, LeO (spenceref24_Runs.l0 k y0 y1 y2 y3) (spenceref24_Runs.l0 (k + 1) y0 y1 y2 y3))
  | 0 => fun _ _ _ _ r h => by simp [spenceref24_Runs.l0] at h
  | k + 1 => by
    have ih0 := spenceref24_Runs.mono_l k
    · intro y0 y1 y2 y3
      unfold spenceref24_Runs.l0
      repeat' first
      | (with_reducible exact ih0 _ _ _ _)
      | (with_reducible exact LeO.refl _)
      | (with_reducible exact LeO.none _)
      | (with_reducible refine LeO.ite ?_ ?_)
      | (with_reducible refine LeO.bind ?_ (fun _ => ?_))
      | exact ih0 _ _ _ _
      | exact LeO.none _
      | refine LeO.ite ?_ ?_
      | refine LeO.bind ?_ (fun _ => ?_)
theorem spenceref24_Runs.mono : ∀ a0 a1 k, LeO (spenceref24_Runs.f k a0 a1) (spenceref24_Runs.f (k + 1) a0 a1) := by
  intro a0 a1 k
  have ih0 := spenceref24_Runs.mono_l k
  unfold spenceref24_Runs.f
  repeat' first
      | (with_reducible exact ih0 _ _ _ _)
      | (with_reducible exact LeO.refl _)
      | (with_reducible exact LeO.none _)
      | (with_reducible refine LeO.ite ?_ ?_)
      | (with_reducible refine LeO.bind ?_ (fun _ => ?_))
      | exact ih0 _ _ _ _
      | exact LeO.none _
      | refine LeO.ite ?_ ?_
      | refine LeO.bind ?_ (fun _ => ?_)
def spenceref24_Missing.l0 : Nat → List (S50) → List (S50) → Int → Int → Option ((List (S50)))
  | 0, _, _, _, _ => none
  | k + 1, x3, x6, x7, x8 => if x8 < x7 then (if 0 ≤ x8 then (if x8 < (x6.length : Int) then (if ((rd_T50 x6 x8).f2 = true) then (spenceref24_Missing.l0 k x3 x6 x7 (wrap64 (x8 + 1))) else (if x3.length < 5864062014805 then (spenceref24_Missing.l0 k (x3 ++ [(⟨(rd_T50 x6 x8).f0, (rd_T50 x6 x8).f1, (rd_T50 x6 x8).f2⟩ : S50)]) x6 x7 (wrap64 (x8 + 1))) else (none))) else (none)) else (none)) else (some x3)
def spenceref24_Missing.f (k : Nat) (l0 : List (S50)) : Option ((List (S50))) := spenceref24_Missing.l0 k ([] : List (S50)) l0 (l0.length : Int) 0
theorem spenceref24_Missing.mono_l : ∀ k, (∀ y0 y1 y2 y3, LeO (spenceref24_Missing.l0 k y0 y1 y2 y3) (spenceref24_Missing.l0 (k + 1) y0 y1 y2 y3))
  | 0 => fun _ _ _ _ r h => by simp [spenceref24_Missing.l0] at h
  | k + 1 => by
    have ih0 := spenceref24_Missing.mono_l k
    · intro y0 y1 y2 y3
      unfold spenceref24_Missing.l0
      repeat' first
      | (with_reducible exact ih0 _ _ _ _)
      | (with_reducible exact LeO.refl _)
      | (with_reducible exact LeO.none _)
      | (with_reducible refine LeO.ite ?_ ?_)
      | (with_reducible refine LeO.bind ?_ (fun _ => ?_))
      | exact ih0 _ _ _ _
      | exact LeO.none _
      | refine LeO.ite ?_ ?_
      | refine LeO.bind ?_ (fun _ => ?_)
theorem spenceref24_Missing.mono : ∀ a0 k, LeO (spenceref24_Missing.f k a0) (spenceref24_Missing.f (k + 1) a0) := by
  intro a0 k
  have ih0 := spenceref24_Missing.mono_l k
  unfold spenceref24_Missing.f
  repeat' first
      | (with_reducible exact ih0 _ _ _ _)
      | (with_reducible exact LeO.refl _)
      | (with_reducible exact LeO.none _)
      | (with_reducible refine LeO.ite ?_ ?_)
      | (with_reducible refine LeO.bind ?_ (fun _ => ?_))
      | exact ih0 _ _ _ _
      | exact LeO.none _
      | refine LeO.ite ?_ ?_
      | refine LeO.bind ?_ (fun _ => ?_)
def runs_bounds.f (a0_0 : Int) (a0_1 : Int) (a0_2 : Bool) : Option (Int × Int) := some (mx a0_0 0, mn a0_1 4097)
end Go.Proofs.YtcnlmpjoghogbaaDoor.PAll
namespace Go.Proofs.YtcnlmpjoghogbaaDoor.Pure
open Go.RowKit Go.Proofs.YtcnlmpjoghogbaaDoor.Xw Go.Proofs.YtcnlmpjoghogbaaDoor.PAll Go.Proofs.YtcnlmpjoghogbaaDoorW.PrintWords Go.Proofs.YtcnlmpjoghogbaaDoorW.PrintLast Go.Proofs.YtcnlmpjoghogbaaDoorW.PrintMore
open Go.Proofs.YtcnlmpjoghogbaaDoor.Ag (hasF withF zeroF has_of)
abbrev RunS := S50
def lastR (out : List RunS) : RunS := rd_T50 out ((out.length : Int) - 1)
def stepR (out : List RunS) (i : Int) (is : Bool) : List RunS :=
  if 0 < out.length ∧ (lastR out).f2 = is then out.set (out.length - 1) ⟨(lastR out).f0, i + 1, (lastR out).f2⟩ else out ++ [⟨i, i + 1, is⟩]
def runsR (p : Int → Bool) : Nat → Int → List RunS → List RunS
  | 0, _, out => out
  | d + 1, i, out => runsR p d (i + 1) (stepR out i (p i))
def LastAt (i : Int) (out : List RunS) : Prop := 0 < out.length → (lastR out).f1 = i
theorem lastR_snoc (out : List RunS) (x : RunS) : lastR (out ++ [x]) = x := by
  unfold lastR rd_T50
  have e : (((out ++ [x]).length : Int) - 1).toNat = out.length := by simp
  rw [e, List.getD_eq_getElem?_getD]; simp
theorem lastR_set (out : List RunS) (x : RunS) (h : 0 < out.length) : lastR (out.set (out.length - 1) x) = x := by
  unfold lastR rd_T50
  have e : (((out.set (out.length - 1) x).length : Int) - 1).toNat = out.length - 1 := by rw [List.length_set]; omega
  rw [e, List.getD_eq_getElem?_getD, List.getElem?_set_self (by omega)]; rfl
theorem step_last (out : List RunS) (i : Int) (is : Bool) : LastAt (i + 1) (stepR out i is) := by
  intro _
  unfold stepR
  split
  · rename_i h; rw [lastR_set _ _ h.1]
  · rw [lastR_snoc]
theorem step_len (out : List RunS) (i : Int) (is : Bool) : (stepR out i is).length ≤ out.length + 1 := by
  unfold stepR
  split
  · rw [List.length_set]; omega
  · simp
theorem runs_loop (F : Nat → Int) (tt : Int) (ht : tt ≤ 4097) (d : Nat) : ∀ (i : Int) (out : List RunS), 0 ≤ i → (tt - i = d ∨ (tt ≤ i ∧ d = 0)) → out.length ≤ i → LastAt i out →
    Ev (fun k => bitmap_Runs.l0 k tt out i F) (runsR (hasF F) d i out) := by
  induction d with
  | zero =>
    intro i out h0 h1 h2 h3
    refine Ev.pos (fun k => ?_)
    simp only [bitmap_Runs.l0]
    rw [if_neg (by omega)]
    unfold api_Run_62.f
    rw [if_pos (by omega), if_pos (Int.le_refl _), Int.toNat_natCast, List.take_length]; rfl
  | succ d ih =>
    intro i out h0 h1 h2 h3
    have hlt : i < tt := by omega
    have hs := step_len out i (hasF F i)
    have hn := ih (i + 1) (stepR out i (hasF F i)) (by omega) (by omega) (by omega) (step_last _ _ _)
    refine Ev.step (fun k => ?_) hn
    simp only [bitmap_Runs.l0]
    rw [if_pos hlt]
    unfold bitmap_Map_Has.f
    rw [Option.bind_some, wrap_id (x := i + 1) (by omega)]
    unfold stepR
    by_cases hl : (out.length : Int) > 0
    · rw [if_pos hl, wrap_id (by omega), if_pos (by omega), if_pos (by omega)]
      have hf := h3 (by omega)
      have e : rd_T50 out ((out.length : Int) - 1) = lastR out := rfl
      rw [e]
      by_cases hc : (lastR out).f2 = hasF F i
      · rw [if_pos (by rw [hc]; simp), if_pos ⟨by omega, hc⟩, hf, wrap_id (by omega)]
        have e2 : ((out.length : Int) - 1).toNat = out.length - 1 := by omega
        rw [e2]
      · rw [if_neg (by simpa using hc), if_pos (by omega), if_neg (fun h => hc h.2)]
    · rw [if_neg hl, if_pos (by omega), if_neg (fun h => by omega)]
theorem runs_ev (F : Nat → Int) (a b : Int) (d : Nat) (hd : mn b 4097 - mx a 0 = d ∨ (mn b 4097 ≤ mx a 0 ∧ d = 0)) : Ev (fun k => bitmap_Runs.f k F a b) (runsR (hasF F) d (mx a 0) []) := by
  have h1 := mx_eq a 0
  have h2 := mn_eq b 4097
  exact runs_loop F (mn b 4097) (by omega) d (mx a 0) [] (by omega) hd (by simp; omega) (fun h => by simp at h)
theorem in_loop (l : List Int) (x : Int) (hl : l.length ≤ 100000) (d : Nat) : ∀ i : Int, 0 ≤ i → i ≤ l.length → (l.length : Int) - i = d → Ev (fun k => spenceref01_In.l0 k x l l.length i) (decide (x ∈ l.drop i.toNat)) := by
  induction d with
  | zero =>
    intro i h0 h1 hd
    refine Ev.pos (fun k => ?_)
    simp only [spenceref01_In.l0]
    rw [if_neg (by omega), List.drop_of_length_le (by omega)]; simp
  | succ d ih =>
    intro i h0 h1 hd
    have hi : i.toNat < l.length := by omega
    have e1 : (i + 1).toNat = i.toNat + 1 := by omega
    have hn := ih (i + 1) (by omega) (by omega) (by omega)
    rw [e1] at hn
    have hr : rd l i = l[i.toNat] := by unfold rd; simp [List.getD_eq_getElem?_getD, List.getElem?_eq_getElem hi]
    rw [List.drop_eq_getElem_cons hi]
    generalize l[i.toNat] = y at hr
    refine Ev.succ ?_
    simp only [spenceref01_In.l0, show i < (l.length : Int) by omega, h0, if_true, hr]
    by_cases hy : y = x
    · simp only [hy, if_true]; rw [decide_eq_true List.mem_cons_self]; exact Ev.now _
    · simp only [hy, if_false]
      rw [wrap_id (by omega)]
      have : decide (x ∈ y :: l.drop (i.toNat + 1)) = decide (x ∈ l.drop (i.toNat + 1)) := by
        rw [decide_eq_decide, List.mem_cons]
        exact ⟨fun h => h.resolve_left (fun e => hy e.symm), .inr⟩
      rw [this]; exact hn
theorem in_ev (l : List Int) (x : Int) (hl : l.length ≤ 100000) : Ev (fun k => spenceref01_In.f k l x) (decide (x ∈ l)) := by
  have := in_loop l x hl l.length 0 (by omega) (by omega) (by omega)
  rwa [Int.toNat_zero, List.drop_zero] at this
theorem runsR_congr (p q : Int → Bool) : ∀ (d : Nat) (i : Int) (out : List RunS), (∀ x, i ≤ x → x < i + d → p x = q x) → runsR p d i out = runsR q d i out
  | 0, _, _, _ => rfl
  | d + 1, i, out, h => by rw [runsR, runsR, h i (by omega) (by omega), runsR_congr p q d (i + 1) _ (fun x h1 h2 => h x (by omega) (by omega))]
theorem awake18 : Ev (fun k => spencelaw18_awake.f k) true := by
  unfold spencelaw18_awake.f bitmap_Of.f
  simp only [Option.bind_some]
  have h := runs_ev (([1, 2] : List Int).foldl withF zeroF) 0 4 4 (.inl (by decide))
  refine Ev.bind h ?_
  have e : runsR (hasF (([1, 2] : List Int).foldl withF zeroF)) 4 (mx 0 0) [] = [⟨0, 1, false⟩, ⟨1, 3, true⟩, ⟨3, 4, false⟩] := by
    rw [runsR_congr _ (fun x => decide (0 ≤ x ∧ x ≤ 4096) && decide (x ∈ ([1, 2] : List Int))) 4 _ _ (fun x _ _ => has_of _ x)]
    rfl
  rw [e]
  exact Ev.now _
end Go.Proofs.YtcnlmpjoghogbaaDoor.Pure
namespace Go.Proofs.YtcnlmpjoghogbaaDoor.Pure
open Go.RowKit Go.Proofs.YtcnlmpjoghogbaaDoor.Xw Go.Proofs.YtcnlmpjoghogbaaDoor.PAll Go.Proofs.YtcnlmpjoghogbaaDoorW.PrintWords Go.Proofs.YtcnlmpjoghogbaaDoorW.PrintLast Go.Proofs.YtcnlmpjoghogbaaDoorW.PrintMore
open Go.Proofs.YtcnlmpjoghogbaaDoor.Ag (srt srtTo srtTo_succ srtTo_full srtTo_stop)
theorem srtTo_len (l : List Int) (i : Nat) : (srtTo l i).length ≤ i := by
  unfold srtTo
  rw [List.length_map]
  have := List.length_filter_le (fun i : Nat => decide ((i : Int) ∈ l)) (List.range i)
  simpa using this
theorem sorted_any_loop (l : List Int) (hl : l.length ≤ 100000) (d : Nat) : ∀ i : Nat, i + d = 4097 → Ev (fun k => spenceref24_Sorted.l0 k l (srtTo l i) (i : Int)) (srt l) := by
  have stop : ∀ i : Nat, srtTo l i = srt l → Ev (fun k => spenceref24_Sorted.j1 k l (srtTo l i) (i : Int) false) (srt l) := fun i h => Ev.pos fun k => by simp only [spenceref24_Sorted.j1, Bool.false_eq_true, if_false, h]
  induction d with
  | zero =>
    intro i hi
    obtain rfl : i = 4097 := by omega
    refine Ev.succ ?_
    simp only [spenceref24_Sorted.l0, show ¬ (((4097 : Nat) : Int) ≤ 4096) by omega, if_false]
    exact stop 4097 (srtTo_full l)
  | succ d ih =>
    intro i hi
    have hlen := srtTo_len l i
    have hn := ih (i + 1) (by omega)
    refine Ev.succ ?_
    simp only [spenceref24_Sorted.l0, show ((i : Int) ≤ 4096) by omega, if_true]
    by_cases hc : ((srtTo l i).length : Int) < (l.length : Int)
    · rw [decide_eq_true hc]
      refine Ev.succ ?_
      simp only [spenceref24_Sorted.j1, if_true]
      refine Ev.bind (in_ev l (i : Int) hl) ?_
      rw [srtTo_succ] at hn
      by_cases hm : (i : Int) ∈ l
      · simp only [hm, decide_true, if_true] at hn ⊢
        simp only [show (srtTo l i).length < 17592186044416 by omega, if_true]
        rw [wrap_id (by omega)]
        exact hn
      · simp only [hm, decide_false, Bool.false_eq_true, if_false, List.append_nil] at hn ⊢
        rw [wrap_id (by omega)]
        exact hn
    · rw [decide_eq_false hc]
      exact stop i (srtTo_stop l i (by omega) (by omega))
theorem sorted_any (l : List Int) (hl : l.length ≤ 100000) : Ev (fun k => spenceref24_Sorted.f k l) (srt l) := by
  have := sorted_any_loop l hl 4097 0 (by omega)
  simpa [spenceref24_Sorted.f, srtTo] using this
end Go.Proofs.YtcnlmpjoghogbaaDoor.Pure
namespace Go.Proofs.YtcnlmpjoghogbaaDoor.Ag
open Go.RowKit Go.Proofs.YtcnlmpjoghogbaaDoor.Xw Go.Proofs.YtcnlmpjoghogbaaDoorW.PrintWords Go.Proofs.YtcnlmpjoghogbaaDoorW.PrintLast Go.Proofs.YtcnlmpjoghogbaaDoorW.PrintMore
theorem one_new {B : Nat} {w0 W : World} (_ : Below B w0 W) (a : Int) (t : TypeId) : Kd.C (Kd.int .i64) (W.alloc (.cells #[.int .i64 a] t (0, 0))) (some ⟨W.heap.size, 0, none⟩) 1 [a] := by
  have ho : (W.alloc (.cells #[.int .i64 a] t (0, 0))).ownsRow W.heap.size t 1 (.slice (some ⟨W.heap.size, 0, none⟩) 1 1) 1 (encs (Value.int .i64) [a]) :=
    World.ownsRow_lit (base := W.heap.size) (e := t) (size := 1) W #[.int .i64 a] 1 (Nat.le_refl _) (by decide) (by rfl)
  have hR : Kd.R (Kd.int .i64) t (W.alloc (.cells #[.int .i64 a] t (0, 0))) W.heap.size (fun _ => True) (.slice (some ⟨W.heap.size, 0, none⟩) 1 1) [a] := Kd.R_of_own ho (fun _ _ => trivial)
  exact (Kd.R_reads' hR).2.2
end Go.Proofs.YtcnlmpjoghogbaaDoor.Ag
namespace Go.Proofs.YtcnlmpjoghogbaaDoor.Pure
open Go.RowKit Go.Proofs.YtcnlmpjoghogbaaDoor.PAll Go.Proofs.YtcnlmpjoghogbaaDoorW.PrintWords Go.Proofs.YtcnlmpjoghogbaaDoorW.PrintLast Go.Proofs.YtcnlmpjoghogbaaDoorW.PrintMore
theorem ints_loop (l m : List Int) (hm : m.length = l.length) (hl : l.length ≤ 9223372036854775807) (d : Nat) : ∀ i : Int, 0 ≤ i → i ≤ l.length → (l.length : Int) - i = d →
    Ev (fun k => spenceref01_Ints.l0 k l m (l.length : Int) i) (decide (l.drop i.toNat = m.drop i.toNat)) := by
  induction d with
  | zero =>
    intro i h0 h1 hd
    refine Ev.pos (fun k => ?_)
    simp only [spenceref01_Ints.l0]
    rw [if_neg (by omega), List.drop_of_length_le (by omega), List.drop_of_length_le (by omega)]
    rfl
  | succ d ih =>
    intro i h0 h1 hd
    obtain ⟨K, hK⟩ := ih (i + 1) (by omega) (by omega) (by omega)
    refine ⟨K + 1, fun k hk => ?_⟩
    obtain ⟨k, rfl⟩ : ∃ j, k = j + 1 := ⟨k - 1, by omega⟩
    have h := hK k (by omega)
    dsimp only at h
    simp only [spenceref01_Ints.l0]
    have hi : i.toNat < l.length := by omega
    have hi' : i.toNat < m.length := by omega
    have e1 : (i + 1).toNat = i.toNat + 1 := by omega
    rw [if_pos (by omega), if_pos h0, if_pos (by omega), if_pos (by omega), wrap_id (by omega), h, e1, List.drop_eq_getElem_cons hi, List.drop_eq_getElem_cons hi']
    have r1 : rd l i = l[i.toNat] := by simp [rd, hi]
    have r2 : rd m i = m[i.toNat] := by simp [rd, hi']
    rw [r1, r2]
    by_cases h2 : l[i.toNat] = m[i.toNat]
    · rw [if_pos h2, h2]; simp only [List.cons.injEq, true_and]
    · rw [if_neg h2]; simp only [List.cons.injEq, h2, false_and, decide_false]
theorem ints_ev (l m : List Int) (hl : l.length ≤ 9223372036854775807) : Ev (fun k => spenceref01_Ints.f k l m) (decide (l = m)) := by
  by_cases h : m.length = l.length
  · have := ints_loop l m h hl l.length 0 (by omega) (by omega) (by omega)
    simp only [Int.toNat_zero, List.drop_zero] at this
    unfold spenceref01_Ints.f
    obtain ⟨K, hK⟩ := this
    exact ⟨K, fun k hk => by dsimp only; rw [if_pos (by omega)]; exact hK k hk⟩
  · refine Ev.all (fun k => ?_)
    unfold spenceref01_Ints.f
    rw [if_neg (by omega), decide_eq_false (fun e => h (by rw [e]))]
end Go.Proofs.YtcnlmpjoghogbaaDoor.Pure
