/- What the law PlanMakes leans on (part 2 of 7): Go functions as plain functions, that the code comes to them, and what these answer. -/
import Derived.WalkKit
import Derived.Lib.Bytealg
import Derived.Laws.StandIn
import Derived.Lib.ConvBytes
import Derived.Laws.BytesArg
import Derived.Test.YtcnlmpjoghogbaaDoorKPlanMakes0
import Derived.Test.YtcnlmpjoghogbaaDoorProg
import Derived.WalkMore
import Derived.Laws.Cover1
import Derived.LoopTactic
import Derived.Lib.Hide
import Derived.Below
import Derived.Tactics
import Derived.KernelRfl
import Derived.Laws.Rows
import Derived.Laws.IdiomCopy
import Derived.Laws.CopyOwn
import Derived.Deep.LoopGhost
import Derived.Shelf.Spec.TrailingZeros
import Derived.Test.YtcnlmpjoghogbaaDoorRows
import Derived.Lib.LaidU8
import Derived.ProofKit
import Derived.OpenShut
import Derived.ShutString
import Derived.ChangeOld
import Derived.SizedLaws
import Derived.Lib.SmallJoins
import Derived.Deep.MidRow
import Derived.Lib.SliceRun
import Derived.Deep.Draws
import Derived.Deep.AppendLies
import Derived.Maps.AppendAt
import Derived.OwnWalk
import Derived.Laws.MakeOwn
import Derived.Laws.OwnMore
import Derived.Deep.OwnRows
import Derived.Laws.Slices
import Derived.RowKit3
import Derived.Deep.QuietTactic
import Derived.BigQuiet
import Derived.WideLaws
import Derived.Deep.DeepCutAuto
import Derived.Deep.CutBlock
import Derived.Deep.RegionHeld3
import Derived.Lib.AppendStr
import Derived.ArgAppend
import Derived.OrdersHeld
import Derived.Laws.BitsLemmas
import Derived.RowKit
import Derived.ChangeKeysEq
import Derived.Laws.StructEq
import Derived.Lib.TrailingZeros
import Derived.RangeFuncNested
import Derived.RangeFuncBound
import Derived.RangeFuncCalls
import Derived.RangeFuncLeaves
import Derived.RangeFuncBox
import Derived.Shelf.Abstract
import Derived.Shelf.RegionOpen
import Derived.OwnWalkIn
import Derived.TacticsInMore
import Derived.LoopNIn
import Derived.LoopIn
import Derived.Maps.OwnIn
import Derived.Deep.DrawnRows
namespace Go.Proofs.YtcnlmpjoghogbaaDoor.Xw
open Go.RowKit Go.Proofs.YtcnlmpjoghogbaaDoorW.PrintWords
/-- A cell that was just written, written once more. -/
@[go_sem] theorem cell_set_twice (w : World) (a : Addr) (u v : Value) : ((w.setCell a u).setCell a v).cell? a = ((w.setCell a u).cell? a).map (fun _ => v) := by
  obtain ⟨b, o, s⟩ := a
  unfold World.cell? World.setCell
  simp only [Array.getElem?_modify]
  split <;> rename_i h <;> revert h
  all_goals (cases hb : w.heap[b]? with
    | none => simp
    | some x => cases x <;> simp <;> (try (cases s <;> simp [Array.getElem?_setIfInBounds] <;> (try (intros; subst_vars; split <;> simp_all)))))
theorem nEm (l : List UInt8) : Ending.returned (Value.bool !l.isEmpty) = Ending.returned (Value.bool (l != [])) := by cases l <;> rfl
theorem eEm (l : List UInt8) : Ending.returned (Value.bool l.isEmpty) = Ending.returned (Value.bool (l == [])) := by cases l <;> rfl
def lowI (x : Int) : Int := if 65 ≤ x ∧ x ≤ 90 then x - 65 + 97 else x
def lowAt (s : ByteArray) (k j : Nat) : Int := if j < k then lowI (bt s j) else bt s j
structure LowIn (s : ByteArray) (g : Nat) (k : Nat) (w wr : World) : Prop where
  cells : ∀ j, j < s.size → wr.cell? ⟨g, j, none⟩ = some (.int .u8 (lowAt s k j))
  free : ∀ j, j < s.size → wr.frozen? ⟨g, j, none⟩ = false
  below : Below w.heap.size w wr
theorem celN1 {w : World} {g : Nat} {t : TypeId} {a : Value} (h : w.heap[g]? = some (.cells #[a] t (0, 0))) : w.cell? ⟨g, 0, none⟩ = some a := (bCe h 0).trans rfl
theorem fzN1 {w : World} {g : Nat} {t : TypeId} {cs : Array Value} (h : w.heap[g]? = some (.cells cs t (0, 0))) : w.frozen? ⟨g, 0, none⟩ = false := bFz h 0
theorem celN2 {w : World} {g : Nat} {t : TypeId} {a b : Value} (h : w.heap[g]? = some (.cells #[a, b] t (0, 0))) : w.cell? ⟨g, 0, none⟩ = some a ∧ w.cell? ⟨g, 1, none⟩ = some b := ⟨(bCe h 0).trans rfl, (bCe h 1).trans rfl⟩
theorem fzN2 {w : World} {g : Nat} {t : TypeId} {cs : Array Value} (h : w.heap[g]? = some (.cells cs t (0, 0))) : w.frozen? ⟨g, 0, none⟩ = false ∧ w.frozen? ⟨g, 1, none⟩ = false := ⟨bFz h 0, bFz h 1⟩
theorem celN3 {w : World} {g : Nat} {t : TypeId} {a b c : Value} (h : w.heap[g]? = some (.cells #[a, b, c] t (0, 0))) : w.cell? ⟨g, 0, none⟩ = some a ∧ w.cell? ⟨g, 1, none⟩ = some b ∧ w.cell? ⟨g, 2, none⟩ = some c := ⟨(bCe h 0).trans rfl, (bCe h 1).trans rfl, (bCe h 2).trans rfl⟩
theorem fzN3 {w : World} {g : Nat} {t : TypeId} {cs : Array Value} (h : w.heap[g]? = some (.cells cs t (0, 0))) : w.frozen? ⟨g, 0, none⟩ = false ∧ w.frozen? ⟨g, 1, none⟩ = false ∧ w.frozen? ⟨g, 2, none⟩ = false := ⟨bFz h 0, bFz h 1, bFz h 2⟩
theorem celN4 {w : World} {g : Nat} {t : TypeId} {a b c d : Value} (h : w.heap[g]? = some (.cells #[a, b, c, d] t (0, 0))) : w.cell? ⟨g, 0, none⟩ = some a ∧ w.cell? ⟨g, 1, none⟩ = some b ∧ w.cell? ⟨g, 2, none⟩ = some c ∧ w.cell? ⟨g, 3, none⟩ = some d := ⟨(bCe h 0).trans rfl, (bCe h 1).trans rfl, (bCe h 2).trans rfl, (bCe h 3).trans rfl⟩
theorem fzN4 {w : World} {g : Nat} {t : TypeId} {cs : Array Value} (h : w.heap[g]? = some (.cells cs t (0, 0))) : w.frozen? ⟨g, 0, none⟩ = false ∧ w.frozen? ⟨g, 1, none⟩ = false ∧ w.frozen? ⟨g, 2, none⟩ = false ∧ w.frozen? ⟨g, 3, none⟩ = false := ⟨bFz h 0, bFz h 1, bFz h 2, bFz h 3⟩
theorem celN5 {w : World} {g : Nat} {t : TypeId} {a b c d p : Value} (h : w.heap[g]? = some (.cells #[a, b, c, d, p] t (0, 0))) : w.cell? ⟨g, 0, none⟩ = some a ∧ w.cell? ⟨g, 1, none⟩ = some b ∧ w.cell? ⟨g, 2, none⟩ = some c ∧ w.cell? ⟨g, 3, none⟩ = some d ∧ w.cell? ⟨g, 4, none⟩ = some p := ⟨(bCe h 0).trans rfl, (bCe h 1).trans rfl, (bCe h 2).trans rfl, (bCe h 3).trans rfl, (bCe h 4).trans rfl⟩
theorem fzN5 {w : World} {g : Nat} {t : TypeId} {cs : Array Value} (h : w.heap[g]? = some (.cells cs t (0, 0))) : w.frozen? ⟨g, 0, none⟩ = false ∧ w.frozen? ⟨g, 1, none⟩ = false ∧ w.frozen? ⟨g, 2, none⟩ = false ∧ w.frozen? ⟨g, 3, none⟩ = false ∧ w.frozen? ⟨g, 4, none⟩ = false := ⟨bFz h 0, bFz h 1, bFz h 2, bFz h 3, bFz h 4⟩
theorem celN6 {w : World} {g : Nat} {t : TypeId} {a b c d p q : Value} (h : w.heap[g]? = some (.cells #[a, b, c, d, p, q] t (0, 0))) : w.cell? ⟨g, 0, none⟩ = some a ∧ w.cell? ⟨g, 1, none⟩ = some b ∧ w.cell? ⟨g, 2, none⟩ = some c ∧ w.cell? ⟨g, 3, none⟩ = some d ∧ w.cell? ⟨g, 4, none⟩ = some p ∧ w.cell? ⟨g, 5, none⟩ = some q := ⟨(bCe h 0).trans rfl, (bCe h 1).trans rfl, (bCe h 2).trans rfl, (bCe h 3).trans rfl, (bCe h 4).trans rfl, (bCe h 5).trans rfl⟩
theorem fzN6 {w : World} {g : Nat} {t : TypeId} {cs : Array Value} (h : w.heap[g]? = some (.cells cs t (0, 0))) : w.frozen? ⟨g, 0, none⟩ = false ∧ w.frozen? ⟨g, 1, none⟩ = false ∧ w.frozen? ⟨g, 2, none⟩ = false ∧ w.frozen? ⟨g, 3, none⟩ = false ∧ w.frozen? ⟨g, 4, none⟩ = false ∧ w.frozen? ⟨g, 5, none⟩ = false := ⟨bFz h 0, bFz h 1, bFz h 2, bFz h 3, bFz h 4, bFz h 5⟩
theorem celN7 {w : World} {g : Nat} {t : TypeId} {a b c d p q r : Value} (h : w.heap[g]? = some (.cells #[a, b, c, d, p, q, r] t (0, 0))) : w.cell? ⟨g, 0, none⟩ = some a ∧ w.cell? ⟨g, 1, none⟩ = some b ∧ w.cell? ⟨g, 2, none⟩ = some c ∧ w.cell? ⟨g, 3, none⟩ = some d ∧ w.cell? ⟨g, 4, none⟩ = some p ∧ w.cell? ⟨g, 5, none⟩ = some q ∧ w.cell? ⟨g, 6, none⟩ = some r := ⟨(bCe h 0).trans rfl, (bCe h 1).trans rfl, (bCe h 2).trans rfl, (bCe h 3).trans rfl, (bCe h 4).trans rfl, (bCe h 5).trans rfl, (bCe h 6).trans rfl⟩
theorem fzN7 {w : World} {g : Nat} {t : TypeId} {cs : Array Value} (h : w.heap[g]? = some (.cells cs t (0, 0))) : w.frozen? ⟨g, 0, none⟩ = false ∧ w.frozen? ⟨g, 1, none⟩ = false ∧ w.frozen? ⟨g, 2, none⟩ = false ∧ w.frozen? ⟨g, 3, none⟩ = false ∧ w.frozen? ⟨g, 4, none⟩ = false ∧ w.frozen? ⟨g, 5, none⟩ = false ∧ w.frozen? ⟨g, 6, none⟩ = false := ⟨bFz h 0, bFz h 1, bFz h 2, bFz h 3, bFz h 4, bFz h 5, bFz h 6⟩
theorem celN8 {w : World} {g : Nat} {t : TypeId} {a b c d p q r s : Value} (h : w.heap[g]? = some (.cells #[a, b, c, d, p, q, r, s] t (0, 0))) : w.cell? ⟨g, 0, none⟩ = some a ∧ w.cell? ⟨g, 1, none⟩ = some b ∧ w.cell? ⟨g, 2, none⟩ = some c ∧ w.cell? ⟨g, 3, none⟩ = some d ∧ w.cell? ⟨g, 4, none⟩ = some p ∧ w.cell? ⟨g, 5, none⟩ = some q ∧ w.cell? ⟨g, 6, none⟩ = some r ∧ w.cell? ⟨g, 7, none⟩ = some s := ⟨(bCe h 0).trans rfl, (bCe h 1).trans rfl, (bCe h 2).trans rfl, (bCe h 3).trans rfl, (bCe h 4).trans rfl, (bCe h 5).trans rfl, (bCe h 6).trans rfl, (bCe h 7).trans rfl⟩
theorem fzN8 {w : World} {g : Nat} {t : TypeId} {cs : Array Value} (h : w.heap[g]? = some (.cells cs t (0, 0))) : w.frozen? ⟨g, 0, none⟩ = false ∧ w.frozen? ⟨g, 1, none⟩ = false ∧ w.frozen? ⟨g, 2, none⟩ = false ∧ w.frozen? ⟨g, 3, none⟩ = false ∧ w.frozen? ⟨g, 4, none⟩ = false ∧ w.frozen? ⟨g, 5, none⟩ = false ∧ w.frozen? ⟨g, 6, none⟩ = false ∧ w.frozen? ⟨g, 7, none⟩ = false := ⟨bFz h 0, bFz h 1, bFz h 2, bFz h 3, bFz h 4, bFz h 5, bFz h 6, bFz h 7⟩
end Go.Proofs.YtcnlmpjoghogbaaDoor.Xw
namespace Go.Proofs.YtcnlmpjoghogbaaDoor.Ag
open Go.RowKit Go.Proofs.YtcnlmpjoghogbaaDoor.Xw Go.Proofs.YtcnlmpjoghogbaaDoorW.PrintWords Go.Proofs.YtcnlmpjoghogbaaDoorW.PrintLast Go.Proofs.YtcnlmpjoghogbaaDoorW.PrintMore
def agC (k : IntKind) (n : Nat) (f : Nat → Int) : Array Value := ((List.range n).map fun i => Value.int k (f i)).toArray
theorem agC_size (k n f) : (agC k n f).size = n := by simp [agC]
theorem agC_get (k n f) (i : Nat) (h : i < n) : (agC k n f)[i]? = some (.int k (f i)) := by simp [agC, h]
theorem agC_one (k n f) : (agC k n f).all (·.oneCell') = true := by
  rw [Array.all_eq_true_iff_forall_mem]
  intro x hx
  simp only [agC, List.mem_toArray, List.mem_map] at hx
  obtain ⟨i, _, rfl⟩ := hx
  rfl
theorem alloc_size (w : World) (o : Obj) : (w.alloc o).heap.size = w.heap.size + 1 := by
  unfold World.alloc
  exact Array.size_push _
def putF (f : Nat → Int) (q : Nat) (v : Int) : Nat → Int := fun j => if j = q then v else f j
theorem agC_set (k n f) (q : Nat) (v : Int) : (agC k n f).setIfInBounds q (.int k v) = agC k n (putF f q v) := by
  apply Array.ext
  · simp [agC]
  · intro i h1 h2
    simp only [agC, putF, List.getElem_toArray, List.getElem_map, List.getElem_range]
    by_cases hq : q = i
    · subst hq; simp
    · have : ¬ i = q := fun e => hq e.symm
      simp [hq, this]
theorem cell_new (w : World) (f : Nat → Int) (k : IntKind) (n t j : Nat) (h : j < n) : (w.alloc (Obj.cells (agC k n f) t)).cell? ⟨w.heap.size, j, none⟩ = some (.int k (f j)) := by
  have := bCe (blk_new w (.cells (agC k n f) t (0, 0))) j
  rw [agC_get k n f j h] at this
  exact this
section
variable {P : Program} {ops : Array Oper} {rest : List Oper} {o : Oper} {a : Act} {Q : Exit → Act → World → Prop} {W : World}
theorem ag_gate {t : TypeId} {x : Operand} (_ho : o.op = .load t x) (h : wpList P ops Q (o :: rest) a W) : wpList P ops Q (o :: rest) a W := h
/-- a whole variable, read -/
theorem row_load (hgd : o.guard = none) (ty : TypeId) (x : Operand) (ho : o.op = .load ty x) (g : Nat) (hx : a.eval x = .pointer (some ⟨g, 0, none⟩)) (k : IntKind) (n : Nat) (f : Nat → Int) (t : TypeId) (d : TypeDesc)
    (hg : W.heap[g]? = some (.cells (agC k n f) t (0, 0))) (hu : P.underlying ty = some d) (hd : (match d with | .struct _ | .array _ _ => true | _ => false) = true) (hi : (P.info? ty).map (·.size) = some n)
    (h : wpList P ops Q rest (a.put o.dst (.agg (agC k n f))) W) : wpList P ops Q (o :: rest) a W :=
  wpList_load_row hgd ty x ho g hx t (agC k n f) (0, 0) d hg hu hd (by rw [hi, agC_size]) h
/-- a whole variable, written -/
theorem row_store (hgd : o.guard = none) (ty : TypeId) (x y : Operand) (ho : o.op = .store ty x y) (hN : o.dst = none) (g : Nat) (hx : a.eval x = .pointer (some ⟨g, 0, none⟩)) (k : IntKind) (n : Nat) (f : Nat → Int) (hy : a.eval y = .agg (agC k n f))
    (old : Array Value) (t : TypeId) (hg : W.heap[g]? = some (.cells old t (0, 0))) (hi : (P.info? ty).map (·.size) = some n) (ho' : old.size = n)
    (h : ∀ w1, w1.heap[g]? = some (.cells (agC k n f) t (0, 0)) → (∀ j, j ≠ g → w1.heap[j]? = W.heap[j]?) → (∀ B w0, Below B w0 W → B ≤ g → Below B w0 w1) → wpList P ops Q rest a w1) : wpList P ops Q (o :: rest) a W := by
  refine wpList_plain hgd fun K hK => ?_
  unfold Oper.wp execOp
  simp only [ho, hx, hy, Instr.storeAt, Instr.sureAddr, Sem.run_bind, Sem.run_pure, Result.andThen_ok, run_storeVar_row W g t ty old (agC k n f) hg (by rw [hi, agC_size]) (by rw [ho', agC_size]) (agC_one k n f)]
  have e : a.put o.dst undef = a := by rw [hN]; rfl
  show K (a.put o.dst undef) (W.setRow g (agC k n f))
  rw [e]
  exact hK _ _ (h _ (setRow_heap W g old (agC k n f) t (0, 0) hg) (fun j hj => setRow_other W g j _ hj) (fun B w0 hb hB => below_setRow hb hB _))
end
end Go.Proofs.YtcnlmpjoghogbaaDoor.Ag
namespace Go.Proofs.YtcnlmpjoghogbaaDoor.Ag
open Go.RowKit Go.Proofs.YtcnlmpjoghogbaaDoor.Xw Go.Proofs.YtcnlmpjoghogbaaDoorW.PrintWords Go.Proofs.YtcnlmpjoghogbaaDoorW.PrintLast Go.Proofs.YtcnlmpjoghogbaaDoorW.PrintMore
/-- The library's table stands in its variable. -/
def TabW (w : World) : Prop := ∀ j, j < 64 → w.cell? ⟨0, j, none⟩ = some (.int .u8 (Lib.deBruijn64tab.getD j 0))
theorem TabW.pos {w : World} (h : TabW w) : 0 < w.heap.size := block_lt_of_cell (h 0 (by decide))
theorem TabW.below {B : Nat} {w w' : World} (h : TabW w) (hb : Below B w w') (hB : 0 < B) : TabW w' := fun j hj => (hb.cell (p := ⟨0, j, none⟩) hB).trans (h j hj)
theorem TabW.step {w w' : World} (h : TabW w) (hb : Below w.heap.size w w') : TabW w' := h.below hb h.pos
set_option maxHeartbeats 4000000 in
set_option maxRecDepth 100000 in
theorem tz_core (x k idx : Nat) (w : World) (hx0 : ((x : Int) == 0) = false)
    (key : IntKind.u64.wrap (bits BinOp.and IntKind.u64 (x : Int) (IntKind.u64.wrap (-(x : Int))) * 285870213051353865) / 288230376151711744 = (idx : Int))
    (hi : idx < 64) (hk : k < 64) (hcell : w.cell? ⟨0, idx, none⟩ = some (.int .u8 k)) :
    Calls Tryd.prog 44 #[.int .u64 x] w fun e w' => e = .returned (.int .i64 k) ∧ w' = w := by
  go_enter Tryd.func44, Tryd.ntmps44
  go_wp2_with (simp only [key])
  go_ret
  exact ⟨rfl, rfl⟩
theorem tz_calls (x : Nat) (hx : x < 18446744073709551616) (hx0 : x ≠ 0) (w : World) (hT : TabW w) :
    Calls Tryd.prog 44 #[.int .u64 x] w fun e w' => e = .returned (.int .i64 (Lib.ctz 64 x)) ∧ w' = w := by
  obtain ⟨hlow, hk⟩ := Lib.lowest_bit 64 x hx0 hx
  obtain ⟨hi, htab⟩ := Lib.deBruijn64_at _ hk
  have hcell := hT _ hi
  rw [htab] at hcell
  exact tz_core x _ _ w (by simp; omega) (tz64_key x _ hx hx0 hlow) hi hk hcell
end Go.Proofs.YtcnlmpjoghogbaaDoor.Ag
namespace Go.Proofs.YtcnlmpjoghogbaaDoor.Ag
open Go.RowKit
theorem tab_of_reads {W : World} (h : Lib.VarReads Tryd.prog W "math/bits.deBruijn64tab" Rows.laid_math_bits_deBruijn64tab) : TabW W := by
  obtain ⟨g, t, cs, fuel, p, hg, hty, hvar, hd⟩ := h
  obtain rfl := Option.some.inj ((show Tryd.prog.globalNamed "math/bits.deBruijn64tab" = some 0 by kernel_rfl).symm.trans hg)
  obtain rfl := Option.some.inj ((show (Tryd.prog.globals[0]?).map (·.type) = some 82 by kernel_rfl).symm.trans hty)
  have hd' : DataW.trod (fun _ => ()) Tryd.prog W 0 (fun _ => true) false fuel 82 cs.toList = some (Lib.tabData .u8 (Lib.deBruijn64tab.map fun n : Nat => (n : Int)), p) := hd
  have hcs := Lib.cells_of_tab Tryd.underlying82 Tryd.underlying5 (by kernel_rfl) (by kernel_rfl) hd'
  intro c hc
  have := World.var?_cell hg hvar c
  rw [this, ← Array.getElem?_toList, hcs]
  have hl : c < Lib.deBruijn64tab.length := hc
  simp [List.getD_eq_getElem?_getD, hl]
end Go.Proofs.YtcnlmpjoghogbaaDoor.Ag
namespace Go.Proofs.YtcnlmpjoghogbaaDoor.Rd
open Go.RowKit Go.ChangeShapes Go.WideShapes Go.ChangeAt Go.Proofs.YtcnlmpjoghogbaaDoorW.PrintWords
set_option linter.unusedVariables false
set_option linter.unusedSimpArgs false
def Opens {α : Type} (P : Program) (t : TypeId) (d : Kd α) (ok : α → Prop) : Prop :=
  ∀ (H : Type) (enc : TypeId × Value → H) (W : World) (spare : Nat → Bool) (held : Bool) (fuel : Nat) (cs : List Value) (x : DataW H × List MemPlace),
    DataW.trod enc P W 0 spare held fuel t cs = some x → ∃ a, d.K W a cs ∧ ok a
def OpensF {α : Type} (P : Program) (o : Nat) (l : List Field) (d : Kd α) (ok : α → Prop) : Prop :=
  ∀ (H : Type) (enc : TypeId × Value → H) (W : World) (spare : Nat → Bool) (held : Bool) (fuel : Nat) (cs : List Value),
    (∀ f ∈ l, ∃ x, DataW.trod enc P W 0 spare held fuel f.type ((cs.drop f.offset).take (P.cellsOf f.type)) = some x) → ∃ a, d.K W a ((cs.drop o).take d.sz) ∧ ok a
section
variable {P : Program} {t e : TypeId} {α β : Type}
theorem opens_int {k : IntKind} (hu : P.underlying t = some (.int k)) : Opens P t (Kd.int k) (fun n => (Lit.int k n).wf = true) := by
  intro H enc W spare held fuel cs x h
  obtain ⟨n, rfl, _, hw⟩ := DataW.trod_int hu h
  exact ⟨n, rfl, hw⟩
theorem opensF_one {f : Field} {o : Nat} {d : Kd α} {ok : α → Prop} (h : Opens P f.type d ok) (ho : f.offset = o) (hs : P.cellsOf f.type = d.sz) : OpensF P o [f] d ok := by
  intro H enc W spare held fuel cs hf
  obtain ⟨x, hx⟩ := hf f (by simp)
  rw [ho, hs] at hx
  exact h H enc W spare held fuel _ x hx
theorem opensF_cons {f : Field} {l : List Field} {o o' : Nat} {a : Kd α} {b : Kd β} {oka : α → Prop} {okb : β → Prop} (h : Opens P f.type a oka) (ho : f.offset = o) (hs : P.cellsOf f.type = a.sz)
    (ho' : o' = o + a.sz) (hl : OpensF P o' l b okb) : OpensF P o (f :: l) (Kd.pair a b) (fun x => oka x.1 ∧ okb x.2) := by
  intro H enc W spare held fuel cs hf
  subst ho'
  obtain ⟨x, hx⟩ := hf f (by simp)
  rw [ho, hs] at hx
  obtain ⟨p, hp, hop⟩ := h H enc W spare held fuel _ x hx
  obtain ⟨q, hq, hoq⟩ := hl H enc W spare held fuel cs (fun g hg => hf g (by simp [hg]))
  refine ⟨(p, q), ⟨_, _, ?_, hp, hq⟩, hop, hoq⟩
  show (cs.drop o).take (a.sz + b.sz) = _
  rw [List.take_add, List.drop_drop]
theorem opens_struct {fs : Array Field} {d : Kd α} {ok : α → Prop} (hu : P.underlying t = some (.struct fs)) (hF : OpensF P 0 fs.toList d ok) (hc : P.cellsOf t = d.sz) (f : β → α) (g : α → β) (hfg : ∀ a, f (g a) = a) :
    Opens P t (Kd.iso d f) (fun x => ok (f x)) := by
  intro H enc W spare held fuel cs x h
  obtain ⟨xs, n, rfl, rfl, hl, hlen, hf⟩ := DataW.trod_struct hu h
  obtain ⟨a, ha, hok⟩ := hF H enc W spare held n cs (fun q hq => by
    obtain ⟨i, hi, rfl⟩ := List.mem_iff_getElem.1 hq
    have hi' : i < xs.length := by rw [hlen]; simpa using hi
    refine ⟨xs[i], ?_⟩
    have := hf i fs.toList[i] (by simp)
    rw [this, List.getElem?_eq_getElem hi'])
  refine ⟨g a, ?_, by show ok (f (g a)); rw [hfg]; exact hok⟩
  show d.K W (f (g a)) cs
  rw [hfg]
  simpa [← hc, ← hl] using ha
theorem listed (Q : Nat → α → Prop) : ∀ n, (∀ i, i < n → ∃ a, Q i a) → ∃ l : List α, l.length = n ∧ ∀ i a, l[i]? = some a → Q i a
  | 0, _ => ⟨[], rfl, fun i a h => by simp at h⟩
  | n + 1, h => by
    obtain ⟨l, hl, hq⟩ := listed Q n (fun i hi => h i (by omega))
    obtain ⟨a, ha⟩ := h n (by omega)
    refine ⟨l ++ [a], by simp [hl], fun i b hb => ?_⟩
    by_cases hi : i < l.length
    · rw [List.getElem?_append_left hi] at hb
      exact hq i b hb
    · have : i < (l ++ [a]).length := (List.getElem?_eq_some_iff.1 hb).1
      have hi2 : i = l.length := by simp at this; omega
      subst hi2
      simp at hb
      subst hb
      rw [hl]; exact ha
/-- A slice, opened: its elements are of the kind. -/
theorem open_elems {H : Type} {enc : TypeId × Value → H} {W : World} {spare : Nat → Bool} {held : Bool} {fuel : Nat} {cs : List Value} {x : DataW H × List MemPlace} {d : Kd α} {ok : α → Prop}
    (hu : P.underlying t = some (.slice e)) (he : Opens P e d ok) (hc : P.cellsOf e = d.sz) (h : DataW.trod enc P W 0 spare held fuel t cs = some x) :
    ∃ A c, ∃ l : List α, cs = [.slice A l.length c] ∧ l.length ≤ c ∧ d.C W A l.length l ∧ (∀ y ∈ l, ok y) ∧
      (l = [] ∨ ∃ elems rest, x.1 = .slice elems rest ∧ elems.length = l.length) := by
  rcases DataW.trod_slice hu h with ⟨rfl, rfl⟩ | ⟨a, len, cap, elems, rest, n, rfl, rfl, rfl, hb, hl, hm, hlen, hel, _⟩
  · exact ⟨none, 0, [], rfl, Nat.le_refl _, ⟨rfl, by simp, fun h => by simp at h⟩, by simp, .inl rfl⟩
  · obtain ⟨l, hll, hq⟩ := listed (fun i y => ok y ∧ ∃ c, W.cells? 0 (a.add (i * d.sz)) d.sz = some c ∧ d.K W y c) len (fun i hi => by
      have h1 := hel i hi
      have hi' : i < elems.length := by omega
      rw [List.getElem?_eq_getElem hi', hc] at h1
      obtain ⟨c, hc1, hc2⟩ := Option.bind_eq_some_iff.1 h1
      obtain ⟨y, hy, hoy⟩ := he H enc W spare held n c _ hc2
      exact ⟨y, hoy, c, hc1, hy⟩)
    subst hll
    refine ⟨some a, cap, l, rfl, hl, ⟨rfl, by unfold maxLen at hm; omega, fun _ => ⟨a, rfl, fun j p hj => ?_⟩⟩, fun y hy => ?_, .inr ⟨_, _, rfl, by simpa using hlen⟩⟩
    · obtain ⟨_, c, hc1, hk⟩ := hq j p hj
      obtain ⟨_, hcl, hcell⟩ := World.cells?_some hc1
      refine ⟨c, hcl, hk, fun i u hu => ?_⟩
      rw [← Addr.add_add]
      have hi : i < d.sz := by rw [← hcl]; exact (List.getElem?_eq_some_iff.1 hu).1
      rw [hcell i hi]
      exact hu
    · obtain ⟨i, hi⟩ := List.mem_iff_getElem?.1 hy
      exact (hq i y hi).1
/-- A parameter that is a slice. -/
theorem open_row {H : Type} {enc : TypeId × Value → H} {W : World} {spare : Nat → Bool} {held : Bool} {v : Value} {dd : DataW H} {ps : List MemPlace} {d : Kd α} {ok : α → Prop} {r : Reach} {b0 : Nat}
    (hu : P.underlying t = some (.slice e)) (he : Opens P e d ok) (hc : P.cellsOf e = d.sz) (hv : Value.okWide P W r b0 t v) (h : DataW.Trod enc P W 0 spare held t v dd ps)
    {ts : List TypeId} {ds : List (DataW H)} {j : Nat} (hsz : (DataW.weightsEach P ts ds).all (· ≤ reachBytes) = true) (ht : ts[j]? = some t) (hd : ds[j]? = some dd) {B : Nat} (hB : P.bytesOf e = B) :
    ∃ A c, ∃ l : List α, v = .slice A l.length c ∧ l.length ≤ c ∧ d.C W A l.length l ∧ (∀ y ∈ l, ok y) ∧ l.length * B ≤ 140737488351232 := by
  obtain ⟨a, len, cap, rfl⟩ := okWide_slice hu hv
  obtain ⟨fuel, hf⟩ := h
  obtain ⟨A, c, l, hcs, hl, hC, hok, hx⟩ := open_elems hu he hc hf
  simp [Value.cells] at hcs
  obtain ⟨rfl, rfl, rfl⟩ := hcs
  refine ⟨_, _, l, rfl, hl, hC, hok, ?_⟩
  rcases hx with rfl | ⟨elems, rest, hx, hlen⟩
  · simp
  · simp only at hx
    subst hx
    have z := sized_slice hsz ht hd hu
    rw [hB] at z
    rw [← hlen]
    exact Nat.le_trans (Nat.mul_le_mul_right _ (Nat.le_add_right _ _)) (by simpa [reachBytes] using z)
end
end Go.Proofs.YtcnlmpjoghogbaaDoor.Rd
namespace Go.Proofs.YtcnlmpjoghogbaaDoor.Ag
open Go.RowKit Go.Proofs.YtcnlmpjoghogbaaDoor.Xw Go.Proofs.YtcnlmpjoghogbaaDoorW.PrintWords Go.Proofs.YtcnlmpjoghogbaaDoorW.PrintLast Go.Proofs.YtcnlmpjoghogbaaDoorW.PrintMore
theorem info_map : (Tryd.prog.info? 27).map (·.size) = some 65 := by kernel_rfl
theorem zero_map : Tryd.zeroCells27 = agC .u64 65 (fun _ => 0) := by kernel_rfl
set_option maxHeartbeats 4000000 in
set_option maxRecDepth 100000 in
theorem may_calls (i : Int) (w : World) : Calls Tryd.prog 46 #[.int .i64 i] w fun e w' => e = .returned (.bool (decide (0 ≤ i ∧ i ≤ 4096))) ∧ w' = w := by
  by_cases h1 : 0 ≤ i
  · have c1 : decide (i ≥ 0) = true := decide_eq_true h1
    by_cases h2 : i ≤ 4096
    · have c2 : decide (i ≤ 4096) = true := decide_eq_true h2
      rw [decide_eq_true ⟨h1, h2⟩]
      go_enter Tryd.func46, Tryd.ntmps46
      go_wp2
      all_goals (go_ret; exact ⟨rfl, rfl⟩)
    · have c2 : decide (i ≤ 4096) = false := decide_eq_false h2
      rw [decide_eq_false (fun h => h2 h.2)]
      go_enter Tryd.func46, Tryd.ntmps46
      go_wp2
      all_goals (go_ret; exact ⟨rfl, rfl⟩)
  · have c1 : decide (i ≥ 0) = false := decide_eq_false h1
    rw [decide_eq_false (fun h => h1 h.1)]
    go_enter Tryd.func46, Tryd.ntmps46
    go_wp2
    all_goals (go_ret; exact ⟨rfl, rfl⟩)
theorem qr (i : Int) (h0 : 0 ≤ i) (h1 : i ≤ 4096) : ∃ q r : Nat, Int.tdiv i 64 = q ∧ Int.tmod i 64 = r ∧ q < 65 ∧ r < 64 ∧ i = 64 * q + r := by
  obtain ⟨n, rfl⟩ : ∃ n : Nat, i = n := ⟨i.toNat, by omega⟩
  refine ⟨n / 64, n % 64, by rw [Int.tdiv_eq_ediv_of_nonneg (by omega)]; rfl, by rw [Int.tmod_eq_emod_of_nonneg (by omega)]; rfl, by omega, by omega, by omega⟩
def hasF (f : Nat → Int) (i : Int) : Bool := decide (0 ≤ i ∧ i ≤ 4096) && (bits .and .u64 (f (i.toNat / 64) / 2 ^ (i.toNat % 64)) 1 == 1)
def withF (f : Nat → Int) (i : Int) : Nat → Int := if 0 ≤ i ∧ i ≤ 4096 then putF f (i.toNat / 64) (bits .or .u64 (f (i.toNat / 64)) (IntKind.u64.wrap (2 ^ (i.toNat % 64)))) else f
set_option maxHeartbeats 4000000 in
set_option maxRecDepth 100000 in
theorem has_calls (f : Nat → Int) (i : Int) (w : World) : Calls Tryd.prog 17 #[.agg (agC .u64 65 f), .int .i64 i] w fun e w' => e = .returned (.bool (hasF f i)) ∧ Below w.heap.size w w' := by
  by_cases h : 0 ≤ i ∧ i ≤ 4096
  · have hm : decide (0 ≤ i ∧ i ≤ 4096) = true := decide_eq_true h
    obtain ⟨q, r, hq, hr, hq1, hr1, hi⟩ := qr i h.1 h.2
    have hc := cell_new w f .u64 65 27 q (by omega)
    have hv : hasF f i = (bits .and .u64 (f q / 2 ^ r) 1 == 1) := by
      have e1 : i.toNat / 64 = q := by omega
      have e2 : i.toNat % 64 = r := by omega
      unfold hasF; rw [hm, e1, e2, Bool.true_and]
    rw [hv]
    clear hi hv h
    go_enter Tryd.func17, Tryd.ntmps17
    go_wp2_with (fail)
    refine (may_calls i _).mono ?_
    rintro e w' ⟨rfl, rfl⟩
    rw [hm]
    dsimp only
    go_wp2_with (fail)
    go_ret
    exact ⟨rfl, aBl (Below.refl _ _) _⟩
  · have hm : decide (0 ≤ i ∧ i ≤ 4096) = false := decide_eq_false h
    have hv : hasF f i = false := by unfold hasF; rw [hm, Bool.false_and]
    rw [hv]
    clear hv h
    go_enter Tryd.func17, Tryd.ntmps17
    go_wp2_with (fail)
    refine (may_calls i _).mono ?_
    rintro e w' ⟨rfl, rfl⟩
    rw [hm]
    dsimp only
    go_wp2_with (fail)
    go_ret
    exact ⟨rfl, aBl (Below.refl _ _) _⟩
set_option maxHeartbeats 4000000 in
set_option maxRecDepth 100000 in
theorem with_calls (f : Nat → Int) (i : Int) (w : World) : Calls Tryd.prog 18 #[.agg (agC .u64 65 f), .int .i64 i] w fun e w' => e = .returned (.agg (agC .u64 65 (withF f i))) ∧ Below w.heap.size w w' := by
  have BK1 := bAl (blk_new w (.cells (agC .u64 65 f) 27 (0, 0))) (.cells Tryd.zeroCells27 27 (0, 0))
  have BK2 := blk_new (w.alloc (.cells (agC .u64 65 f) 27 (0, 0))) (.cells Tryd.zeroCells27 27 (0, 0))
  have HB := aBl (aBl (Below.refl w.heap.size w) (.cells (agC .u64 65 f) 27 (0, 0))) (.cells Tryd.zeroCells27 27 (0, 0))
  rw [alloc_size] at BK2
  have BK1 := AsZ.mk BK1
  have BK2 := AsZ.mk BK2
  have HB := AsZ.mk HB
  by_cases h : 0 ≤ i ∧ i ≤ 4096
  · have hm : decide (0 ≤ i ∧ i ≤ 4096) = true := decide_eq_true h
    obtain ⟨q, r, hq, hr, hq1, hr1, hi⟩ := qr i h.1 h.2
    have hv : withF f i = putF f q (bits .or .u64 (f q) (IntKind.u64.wrap (2 ^ r))) := by
      have e1 : i.toNat / 64 = q := by omega
      have e2 : i.toNat % 64 = r := by omega
      unfold withF; rw [if_pos h, e1, e2]
    rw [hv]
    clear hi h hv
    generalize hf2 : putF f q (bits .or .u64 (f q) (IntKind.u64.wrap (2 ^ r))) = f2
    have hf2 := AsZ.mk hf2
    go_enter Tryd.func18, Tryd.ntmps18
    go_wp2_with (fail)
    refine (may_calls i _).mono ?_
    rintro e w' ⟨rfl, rfl⟩
    rw [hm]
    dsimp only
    go_wp2_with (fail)
    generalize (w.alloc (.cells (agC .u64 65 f) 27 (0, 0))).alloc (.cells Tryd.zeroCells27 27 (0, 0)) = w1 at BK1 BK2 HB ⊢
    have hc := bCe BK1.out q
    rw [agC_get _ _ _ _ hq1] at hc
    have hfz := bFz BK1.out q
    go_region
    have BK3 := bDr (blk_set BK1.out q (Value.int IntKind.u64 (bits BinOp.or IntKind.u64 (f q) (IntKind.u64.wrap (2 ^ r)))))
    have BK4 := bDr (bFr BK2.out (p := ⟨w.heap.size, q, none⟩) (by show w.heap.size + 1 ≠ w.heap.size; omega) (Value.int IntKind.u64 (bits BinOp.or IntKind.u64 (f q) (IntKind.u64.wrap (2 ^ r)))))
    have HB2 := below_drew (sBl (j := q) (v := Value.int IntKind.u64 (bits BinOp.or IntKind.u64 (f q) (IntKind.u64.wrap (2 ^ r)))) HB.out (Nat.le_refl _))
    rw [agC_set, hf2.out] at BK3
    generalize (w1.setCell ⟨w.heap.size, q, none⟩ (Value.int IntKind.u64 (bits BinOp.or IntKind.u64 (f q) (IntKind.u64.wrap (2 ^ r))))).drew = w2 at BK3 BK4 HB2 ⊢
    clear BK1 BK2 HB hc hfz
    have BK3 := AsZ.mk BK3
    have BK4 := AsZ.mk BK4
    have HB2 := AsZ.mk HB2
    go_wp2_with (first | ((with_reducible refine gDs (N := 18) rfl ?_); refine row_load rfl 27 (.tmp 2) rfl w.heap.size rfl .u64 65 f2 27 _ BK3.out Tryd.underlying27 rfl info_map ?_) | ((with_reducible refine gate_store (t := 27) (p := 4) rfl ?_); refine row_store rfl 27 (.tmp 4) (.tmp 18) rfl rfl (w.heap.size + 1) rfl .u64 65 f2 rfl _ 27 BK4.out info_map (by rw [zero_map, agC_size]) ?_; intro w3 BK5 BK6 HB3))
    refine bodyPost_ret (v := .agg (agC .u64 65 f2)) (results_cell_row (p := 4) (ty := 27) Tryd.results18 _ _ (w.heap.size + 1) 27 _ (0, 0) _ rfl BK5 Tryd.underlying27 rfl (by rw [info_map, agC_size])) rfl ⟨rfl, HB3 _ _ HB2.out (by omega)⟩
  · have hm : decide (0 ≤ i ∧ i ≤ 4096) = false := decide_eq_false h
    have hv : withF f i = f := by unfold withF; rw [if_neg h]
    rw [hv]
    clear hv h
    go_enter Tryd.func18, Tryd.ntmps18
    go_wp2_with (fail)
    refine (may_calls i _).mono ?_
    rintro e w' ⟨rfl, rfl⟩
    rw [hm]
    dsimp only
    generalize (w.alloc (.cells (agC .u64 65 f) 27 (0, 0))).alloc (.cells Tryd.zeroCells27 27 (0, 0)) = w2 at BK1 BK2 HB ⊢
    have BK3 := BK1
    have BK4 := BK2
    have HB2 := HB
    clear BK1 BK2 HB
    go_wp2_with (first | ((with_reducible refine gDs (N := 18) rfl ?_); refine row_load rfl 27 (.tmp 2) rfl w.heap.size rfl .u64 65 f 27 _ BK3.out Tryd.underlying27 rfl info_map ?_) | ((with_reducible refine gate_store (t := 27) (p := 4) rfl ?_); refine row_store rfl 27 (.tmp 4) (.tmp 18) rfl rfl (w.heap.size + 1) rfl .u64 65 f rfl _ 27 BK4.out info_map (by rw [zero_map, agC_size]) ?_; intro w3 BK5 BK6 HB3))
    refine bodyPost_ret (v := .agg (agC .u64 65 f)) (results_cell_row (p := 4) (ty := 27) Tryd.results18 _ _ (w.heap.size + 1) 27 _ (0, 0) _ rfl BK5 Tryd.underlying27 rfl (by rw [info_map, agC_size])) rfl ⟨rfl, HB3 _ _ HB2.out (by omega)⟩
def zeroF : Nat → Int := fun _ => 0
theorem foldl_snoc {α β : Type} (f : β → α → β) (b : β) (l : List α) (k : Nat) (h : k < l.length) : (l.take (k + 1)).foldl f b = f ((l.take k).foldl f b) l[k] := by
  rw [List.take_succ_eq_append_getElem h, List.foldl_append]; rfl
set_option maxHeartbeats 4000000 in
set_option maxRecDepth 100000 in
theorem of_calls (A0 : Option Addr) (c0 : Nat) (l0 : List Int) (w : World) (hr0 : Kd.C (Kd.int .i64) w A0 l0.length l0) (_hc0 : l0.length ≤ c0) :
    Calls Tryd.prog 10 #[.slice A0 l0.length c0] w fun e w' => e = .returned (.agg (agC .u64 65 (l0.foldl withF zeroF))) ∧ Below w.heap.size w w' := by
  have hb0 : l0.length ≤ 9223372036854775807 := by have := hr0.2.1; unfold maxLen at this; omega
  have BK1 := bAl (blk_new w (.cells Tryd.zeroCells27 27 (0, 0))) (.cells Tryd.zeroCells27 27 (0, 0))
  have BK2 := blk_new (w.alloc (.cells Tryd.zeroCells27 27 (0, 0))) (.cells Tryd.zeroCells27 27 (0, 0))
  have HB := aBl (aBl (Below.refl w.heap.size w) (.cells Tryd.zeroCells27 27 (0, 0))) (.cells Tryd.zeroCells27 27 (0, 0))
  rw [alloc_size] at BK2
  have BK1 := AsZ.mk BK1
  have BK2 := AsZ.mk BK2
  have HB := AsZ.mk HB
  have HR := AsZ.mk hr0
  clear hr0 _hc0
  have hfin : l0.foldl withF zeroF = (l0.take l0.length).foldl withF zeroF := by rw [List.take_length]
  rw [hfin]
  clear hfin
  obtain ⟨f9, hf9⟩ : ∃ f9, (l0.take l0.length).foldl withF zeroF = f9 := ⟨_, rfl⟩
  rw [hf9]
  have hf9 := AsZ.mk hf9
  go_enter Tryd.func10, Tryd.ntmps10
  go_wp2_with (fail)
  generalize (w.alloc (.cells Tryd.zeroCells27 27 (0, 0))).alloc (.cells Tryd.zeroCells27 27 (0, 0)) = w1 at BK1 BK2 HB ⊢
  go_loopg [5, 8] l0.length (fun gg _ s8 wr => ∃ kk : Nat, kk ≤ l0.length ∧ l0.length - kk ≤ gg ∧ s8 = .int .i64 kk ∧ AsZ (Below w.heap.size w wr) ∧ AsZ (wr.heap[w.heap.size]? = some (.cells Tryd.zeroCells27 27 (0, 0))) ∧ AsZ (wr.heap[w.heap.size + 1]? = some (.cells (agC .u64 65 ((l0.take kk).foldl withF zeroF)) 27 (0, 0))))
  case atStart => exact ⟨0, Nat.zero_le _, by omega, rfl, HB, BK1, ⟨by rw [BK2.out, zero_map]; rfl⟩⟩
  case round =>
    clear BK1 BK2 HB
    obtain ⟨kk, hkk, hg, rfl, HB, BK1, BK2⟩ := hrel
    by_cases hlt : kk < l0.length
    · have hltz : (kk : Int) < (l0.length : Int) := by omega
      obtain ⟨ad, e1, hx⟩ := Kd.at_int (Kd.C_below HR.out HB.out) (kk : Int) (by omega) hltz
      cases e1
      simp only [Int.toNat_natCast] at hx
      have hcall := with_calls ((l0.take kk).foldl withF zeroF) (rd l0 kk) wr
      have hnx : (l0.take (kk + 1)).foldl withF zeroF = withF ((l0.take kk).foldl withF zeroF) (rd l0 kk) := by
        rw [foldl_snoc _ _ _ _ hlt]
        congr 1
        unfold rd
        simp [List.getD_eq_getElem?_getD, List.getElem?_eq_getElem hlt]
      generalize (l0.take kk).foldl withF zeroF = f at BK2 hcall hnx
      have hnx := AsZ.mk hnx
      have hcall := AsZ.mk hcall
      go_wp2_with (first | ((with_reducible refine gDs (N := 12) rfl ?_); refine row_load rfl 27 (.tmp 3) rfl (w.heap.size + 1) rfl .u64 65 f 27 _ BK2.out Tryd.underlying27 rfl info_map ?_))
      refine hcall.out.mono ?_
      rintro e w2 ⟨rfl, hb⟩
      dsimp only
      have BK3 := AsZ.mk (bBl BK1.out hb)
      have BK4 := AsZ.mk (bBl BK2.out hb)
      have HB2 := AsZ.mk (tBl HB.out hb)
      clear BK1 BK2 HB hcall hb hx HR
      go_wp2_with (first | ((with_reducible refine gate_store (t := 27) (p := 3) rfl ?_); refine row_store rfl 27 (.tmp 3) (.tmp 14) rfl rfl (w.heap.size + 1) rfl .u64 65 (withF f (rd l0 kk)) rfl _ 27 BK4.out info_map (agC_size _ _ _) ?_; intro w3 BK5 BK6 HB3; have BK5 := AsZ.mk BK5; have BK6 := AsZ.mk BK6; have HB3 := AsZ.mk HB3))
      go_roundg (l0.length - (kk + 1))
      case measure => omega
      case rel => exact ⟨kk + 1, by omega, by omega, by go_num, ⟨HB3.out _ _ HB2.out (by omega)⟩, ⟨(BK6.out _ (by omega)).trans BK3.out⟩, ⟨by rw [BK5.out, hnx.out]⟩⟩
    · have hltz : ¬ (kk : Int) < (l0.length : Int) := by omega
      obtain rfl : kk = l0.length := by omega
      clear hg hkk HR hlt
      have BK3 := AsZ.mk (show wr.heap[w.heap.size + 1]? = some (.cells (agC .u64 65 f9) 27 (0, 0)) by rw [← hf9.out]; exact BK2.out)
      clear BK2
      go_wp2_with (first | ((with_reducible refine gDs (N := 16) rfl ?_); refine row_load rfl 27 (.tmp 3) rfl (w.heap.size + 1) rfl .u64 65 f9 27 _ BK3.out Tryd.underlying27 rfl info_map ?_) | ((with_reducible refine gate_store (t := 27) (p := 2) rfl ?_); refine row_store rfl 27 (.tmp 2) (.tmp 16) rfl rfl w.heap.size rfl .u64 65 f9 rfl _ 27 BK1.out info_map (by rw [zero_map, agC_size]) ?_; intro w3 BK5 BK6 HB3))
      refine bodyPost_ret (v := .agg (agC .u64 65 f9)) (results_cell_row (p := 2) (ty := 27) Tryd.results10 _ _ w.heap.size 27 _ (0, 0) _ rfl BK5 Tryd.underlying27 rfl (by rw [info_map, agC_size])) rfl ⟨rfl, HB3 _ _ HB.out (Nat.le_refl _)⟩
end Go.Proofs.YtcnlmpjoghogbaaDoor.Ag
namespace Go.Proofs.YtcnlmpjoghogbaaDoor.Ag
open Go.RowKit Go.Proofs.YtcnlmpjoghogbaaDoor.Xw Go.Proofs.YtcnlmpjoghogbaaDoorW.PrintWords Go.Proofs.YtcnlmpjoghogbaaDoorW.PrintLast Go.Proofs.YtcnlmpjoghogbaaDoorW.PrintMore
/-- The block g holds the map f. -/
def Holds (g : Nat) (f : Nat → Int) (w : World) : Prop := w.heap[g]? = some (.cells (agC .u64 65 f) 27 (0, 0))
theorem Holds.load {g : Nat} {f : Nat → Int} {w : World} (h : Holds g f w) : (loadVar 27 ⟨g, 0, none⟩).run Tryd.prog w = .ok (.agg (agC .u64 65 f)) w := by
  refine run_loadVar_mid w g 0 27 (agC .u64 65 f).toList _ ?_ Tryd.underlying27 rfl (by rw [info_map]; simp [agC])
  intro j v hv
  rw [Nat.zero_add]
  have := bCe h j
  rw [Array.getElem?_toList] at hv
  rw [this]; exact hv
def ldMap (v : Value) : Sem Value := Instr.loadAt 27 v
theorem ldMap_eq (v : Value) : Instr.loadAt 27 v = ldMap v := rfl
theorem Holds.ld {g : Nat} {f : Nat → Int} {w : World} (h : Holds g f w) : (ldMap (.pointer (some ⟨g, 0, none⟩))).run Tryd.prog w = .ok (.agg (agC .u64 65 f)) w := by
  simp only [ldMap, Instr.loadAt, Instr.sureAddr, Sem.run_bind, Sem.run_pure, Result.andThen_ok, h.load]
theorem Holds.below {g : Nat} {f : Nat → Int} {w w' : World} (h : Holds g f w) (hb : Below w.heap.size w w') : Holds g f w' := bBl h hb
theorem Holds.drew {g : Nat} {f : Nat → Int} {w : World} (h : Holds g f w) : Holds g f w.drew := bDr h
theorem ldMap_run {g : Nat} {f : Nat → Int} {w : World} (h : w.heap[g]? = some (.cells (agC .u64 65 f) 27 (0, 0))) : (ldMap (.pointer (some ⟨g, 0, none⟩))).run Tryd.prog w = .ok (.agg (agC .u64 65 f)) w := Holds.ld h
theorem row_put {w : World} {g : Nat} {old cells : Array Value} {t : TypeId} (h : w.heap[g]? = some (.cells old t (0, 0))) : (w.setRow g cells).heap[g]? = some (.cells cells t (0, 0)) := setRow_heap w g old cells t (0, 0) h
theorem row_far {w : World} {g h : Nat} {o : Obj} (hb : w.heap[h]? = some o) (hne : h ≠ g) (cells : Array Value) : (w.setRow g cells).heap[h]? = some o := (setRow_other w g h cells hne).trans hb
theorem row_below {B : Nat} {w0 w : World} (hb : Below B w0 w) {g : Nat} (hg : B ≤ g) {cells : Array Value} : Below B w0 (w.setRow g cells) := below_setRow hb hg _
section
variable {P : Program} {ops : Array Oper} {rest : List Oper} {o : Oper} {a : Act} {Q : Exit → Act → World → Prop} {W : World}
theorem ag_gate_st {t : TypeId} {x y : Operand} (_ho : o.op = .store t x y) (h : wpList P ops Q (o :: rest) a W) : wpList P ops Q (o :: rest) a W := h
/-- a whole variable, written: the world is told in full -/
theorem row_store2 (hgd : o.guard = none) (ty : TypeId) (x y : Operand) (ho : o.op = .store ty x y) (hN : o.dst = none) (g : Nat) (hx : a.eval x = .pointer (some ⟨g, 0, none⟩)) (k : IntKind) (n : Nat) (f : Nat → Int) (hy : a.eval y = .agg (agC k n f))
    (old : Array Value) (t : TypeId) (hg : W.heap[g]? = some (.cells old t (0, 0))) (hi : (P.info? ty).map (·.size) = some n) (ho' : old.size = n)
    (h : wpList P ops Q rest a (W.setRow g (agC k n f))) : wpList P ops Q (o :: rest) a W := by
  refine wpList_plain hgd fun K hK => ?_
  unfold Oper.wp execOp
  simp only [ho, hx, hy, Instr.storeAt, Instr.sureAddr, Sem.run_bind, Sem.run_pure, Result.andThen_ok, run_storeVar_row W g t ty old (agC k n f) hg (by rw [hi, agC_size]) (by rw [ho', agC_size]) (agC_one k n f)]
  have e : a.put o.dst undef = a := by rw [hN]; rfl
  show K (a.put o.dst undef) (W.setRow g (agC k n f))
  rw [e]
  exact hK _ _ h
end
end Go.Proofs.YtcnlmpjoghogbaaDoor.Ag

namespace Go.Proofs.YtcnlmpjoghogbaaDoor.PAll
open Go.RowKit Go.Proofs.YtcnlmpjoghogbaaDoor.Xw Go.Proofs.YtcnlmpjoghogbaaDoorW.PrintWords Go.Proofs.YtcnlmpjoghogbaaDoorW.PrintLast Go.Proofs.YtcnlmpjoghogbaaDoorW.PrintMore
attribute [local go_sem] max2_int min2_int max_two min_two max_three min_three max_four min_four   -- for this text's walks alone
set_option linter.unusedVariables false
set_option linter.unusedSimpArgs false
def errW : Option Int → Value
  | none => .nilIface
  | some c => .iface 0 (.int .i64 c)
theorem eWn : errW none = .nilIface := rfl
theorem eWs (c : Int) : errW (some c) = .iface 0 (.int .i64 c) := rfl
theorem info3 : (Tryd.prog.info? 3).map (fun i => (i.zero, i.size, i.bytes)) = some (some (.int .i64 0), 1, 8) := by kernel_rfl
theorem info50 : (Tryd.prog.info? 50).map (fun i => (i.zero, i.size, i.bytes)) = some (some (.agg #[(.int .i64 0), (.int .i64 0), (.bool false)]), 3, 24) := by kernel_rfl
structure S50 where
  f0 : Int
  f1 : Int
  f2 : Bool
def z50 : S50 := ⟨(0 : Int), (0 : Int), false⟩
def k50 : Kd S50 := Kd.iso (Kd.pair (Kd.int .i64) (Kd.pair (Kd.int .i64) Kd.bool)) (fun x : S50 => (x.f0, x.f1, x.f2))
theorem k50_open {w : World} {x : S50} {cs : List Value} (h : k50.K w x cs) : cs = [.int .i64 x.f0, .int .i64 x.f1, .bool x.f2] := by
  obtain ⟨_, _, rfl, rfl, ⟨_, _, rfl, rfl, rfl⟩⟩ := h
  exact rfl
theorem k50_openM {w : World} {base : Nat} {ok : Nat → Prop} {x : S50} {cs : List Value} (h : k50.M w base ok x cs) : cs = [.int .i64 x.f0, .int .i64 x.f1, .bool x.f2] := by
  obtain ⟨_, _, rfl, rfl, ⟨_, _, rfl, rfl, rfl⟩⟩ := h
  exact rfl
theorem k50_mkM (w : World) (base : Nat) (ok : Nat → Prop) (x : S50)  : k50.M w base ok x [.int .i64 x.f0, .int .i64 x.f1, .bool x.f2] := ⟨[.int .i64 x.f0], [.int .i64 x.f1, .bool x.f2], rfl, rfl, ⟨[.int .i64 x.f1], [.bool x.f2], rfl, rfl, rfl⟩⟩
def rd_T50 (xs : List S50) (i : Int) : S50 := xs.getD i.toNat z50
theorem at_T50 {w : World} {A : Option Addr} {n : Nat} {xs : List S50} (h : Kd.C k50 w A n xs) (i : Int) (h0 : 0 ≤ i) (h1 : i < n) : ∃ ad , A = some ad ∧ w.cell? (ad.add (i.toNat * 3)) = some (.int .i64 (rd_T50 xs i).f0) ∧ w.cell? ⟨(ad.add (i.toNat * 3)).block, (ad.add (i.toNat * 3)).off + 1, none⟩ = some (.int .i64 (rd_T50 xs i).f1) ∧ w.cell? ⟨(ad.add (i.toNat * 3)).block, (ad.add (i.toNat * 3)).off + 2, none⟩ = some (.bool (rd_T50 xs i).f2) := by
  obtain ⟨ad, c, e, _, hK, hc0⟩ := Kd.C_get h z50 i h0 h1
  have hc : ∀ j u, c[j]? = some u → w.cell? (ad.add (i.toNat * 3 + j)) = some u := hc0
  obtain rfl := k50_open hK
  exact ⟨ad, e, hc 0 _ rfl, by rw [← add_field _ _ 1 (by omega)]; exact hc 1 _ rfl, by rw [← add_field _ _ 2 (by omega)]; exact hc 2 _ rfl⟩
structure S53 where
  f0 : Int
  f1 : Int
def z53 : S53 := ⟨(0 : Int), (0 : Int)⟩
def k53 : Kd S53 := Kd.iso (Kd.pair (Kd.int .i64) (Kd.int .i64)) (fun x : S53 => (x.f0, x.f1))
theorem k53_open {w : World} {x : S53} {cs : List Value} (h : k53.K w x cs) : cs = [.int .i64 x.f0, .int .i64 x.f1] := by
  obtain ⟨_, _, rfl, rfl, rfl⟩ := h
  exact rfl
theorem k53_mkM (w : World) (base : Nat) (ok : Nat → Prop) (x : S53)  : k53.M w base ok x [.int .i64 x.f0, .int .i64 x.f1] := ⟨[.int .i64 x.f0], [.int .i64 x.f1], rfl, rfl, rfl⟩
def rd_T53 (xs : List S53) (i : Int) : S53 := xs.getD i.toNat z53
theorem at_T53 {w : World} {A : Option Addr} {n : Nat} {xs : List S53} (h : Kd.C k53 w A n xs) (i : Int) (h0 : 0 ≤ i) (h1 : i < n) : ∃ ad , A = some ad ∧ w.cell? (ad.add (i.toNat * 2)) = some (.int .i64 (rd_T53 xs i).f0) ∧ w.cell? ⟨(ad.add (i.toNat * 2)).block, (ad.add (i.toNat * 2)).off + 1, none⟩ = some (.int .i64 (rd_T53 xs i).f1) := by
  obtain ⟨ad, c, e, _, hK, hc0⟩ := Kd.C_get h z53 i h0 h1
  have hc : ∀ j u, c[j]? = some u → w.cell? (ad.add (i.toNat * 2 + j)) = some u := hc0
  obtain rfl := k53_open hK
  exact ⟨ad, e, hc 0 _ rfl, by rw [← add_field _ _ 1 (by omega)]; exact hc 1 _ rfl⟩
structure S60 where
  f0 : (List Int)
  f1 : (List S50)
  f2 : (List S50)
theorem fld53_1 (c0 c1 : Value) (W : World) : (Instr.field 53 (.agg #[c0, c1]) 1).run Tryd.prog W = .ok (c1) W := by kernel_rfl
attribute [go_sem] fld53_1
end Go.Proofs.YtcnlmpjoghogbaaDoor.PAll
namespace Go.Proofs.YtcnlmpjoghogbaaDoor.PAll
open Go.Proofs.YtcnlmpjoghogbaaDoor.Ag (row_load row_store ag_gate ag_gate_st row_store2)
open Go.RowKit Go.Proofs.YtcnlmpjoghogbaaDoor.Xw Go.Proofs.YtcnlmpjoghogbaaDoorW.PrintWords Go.Proofs.YtcnlmpjoghogbaaDoorW.PrintLast Go.Proofs.YtcnlmpjoghogbaaDoorW.PrintMore
attribute [local go_sem] max2_int min2_int max_two min_two max_three min_three max_four min_four   -- for this text's walks alone
attribute [local go_sem ↓] Ag.ldMap_eq
set_option linter.unusedVariables false
set_option linter.unusedSimpArgs false
def bitmap_may.f (a0 : Int) : Option (Bool) := if a0 ≥ 0 then (some (decide (a0 ≤ 4096))) else (some false)
def bitmap_Map_With.f (a0_0 : Nat → Int) (a1 : Int) : Option (Nat → Int) := some (Ag.withF a0_0 a1)
def bitmap_Of.f (l0 : List Int) : Option (Nat → Int) := some (l0.foldl Ag.withF Ag.zeroF)
theorem bitmap_Of.calls (A0 : Option Addr) (c0 : Nat) (l0 : List Int) (r : Nat → Int) (w : World) (hr0 : Kd.C (Kd.int .i64) w A0 l0.length l0) (hc0 : l0.length ≤ c0) (h : bitmap_Of.f l0 = some r) :
    Calls Tryd.prog 10 #[.slice A0 l0.length c0] w fun e w' => e = .returned (.agg (Ag.agC .u64 65 r)) ∧ Below w.heap.size w w' := by
  obtain rfl := Option.some.inj h
  exact Ag.of_calls A0 c0 l0 w hr0 hc0
def bitmap_Map_Has.f (a0_0 : Nat → Int) (a1 : Int) : Option Bool := some (Ag.hasF a0_0 a1)
def api_Run_62.f (l0 : List (S50)) : Option ((List (S50))) := if 0 ≤ (l0.length : Int) then (if (l0.length : Int) ≤ (l0.length : Int) then (some (l0.take ((l0.length : Int) : Int).toNat)) else (none)) else (none)
def bitmap_Runs.l0 : Nat → Int → List (S50) → Int → (Nat → Int) → Option ((List (S50)))
  | 0, _, _, _, _ => none
  | k + 1, x2, x7, x8, x107000 => if x8 < x2 then ((bitmap_Map_Has.f x107000 x8).bind fun t107 => (if (x7.length : Int) > 0 then (if 0 ≤ (wrap64 ((x7.length : Int) - 1)) then (if (wrap64 ((x7.length : Int) - 1)) < (x7.length : Int) then (if (((rd_T50 x7 (wrap64 ((x7.length : Int) - 1))).f2) == t107) = true then (bitmap_Runs.l0 k x2 (x7.set ((wrap64 ((x7.length : Int) - 1)) : Int).toNat (⟨(rd_T50 x7 (wrap64 ((x7.length : Int) - 1))).f0, wrap64 (((rd_T50 x7 (wrap64 ((x7.length : Int) - 1))).f1) + 1), (rd_T50 x7 (wrap64 ((x7.length : Int) - 1))).f2⟩ : S50)) (wrap64 (x8 + 1)) x107000) else (if x7.length < 5864062014805 then (bitmap_Runs.l0 k x2 (x7 ++ [(⟨x8, wrap64 (x8 + 1), t107⟩ : S50)]) (wrap64 (x8 + 1)) x107000) else (none))) else (none)) else (none)) else (if x7.length < 5864062014805 then (bitmap_Runs.l0 k x2 (x7 ++ [(⟨x8, wrap64 (x8 + 1), t107⟩ : S50)]) (wrap64 (x8 + 1)) x107000) else (none)))) else ((api_Run_62.f x7).bind fun t117 => (some t117))
def bitmap_Runs.f (k : Nat) (a0_0 : (Nat → Int)) (a1 : Int) (a2 : Int) : Option ((List (S50))) := bitmap_Runs.l0 k (mn a2 4097) ([] : List (S50)) (mx a1 0) a0_0
theorem bitmap_Runs.mono_l : ∀ k, (∀ y0 y1 y2 y3, LeO (bitmap_Runs.l0 k y0 y1 y2 y3) (bitmap_Runs.l0 (k + 1) y0 y1 y2 y3))
  | 0 => fun _ _ _ _ r h => by simp [bitmap_Runs.l0] at h
  | k + 1 => by
    have ih0 := bitmap_Runs.mono_l k
    · intro y0 y1 y2 y3
      unfold bitmap_Runs.l0
      repeat' first
      | (with_reducible exact ih0 _ _ _ _)
      | (with_reducible exact LeO.refl _)
      | (with_reducible exact LeO.none _)
      | (with_reducible refine LeO.ite ?_ ?_)
      | (with_reducible refine LeO.bind ?_ (fun _ => ?_))
      | exact ih0 _ _ _ _
      | exact LeO.none _
      | refine LeO.ite ?_ ?_
      | refine LeO.bind ?_ (fun _ => ?_)
theorem bitmap_Runs.mono : ∀ a0 a1 a2 k, LeO (bitmap_Runs.f k a0 a1 a2) (bitmap_Runs.f (k + 1) a0 a1 a2) := by
  intro a0 a1 a2 k
  have ih0 := bitmap_Runs.mono_l k
  unfold bitmap_Runs.f
  repeat' first
      | (with_reducible exact ih0 _ _ _ _)
      | (with_reducible exact LeO.refl _)
      | (with_reducible exact LeO.none _)
      | (with_reducible refine LeO.ite ?_ ?_)
      | (with_reducible refine LeO.bind ?_ (fun _ => ?_))
      | exact ih0 _ _ _ _
      | exact LeO.none _
      | refine LeO.ite ?_ ?_
      | refine LeO.bind ?_ (fun _ => ?_)
def spencelaw18_awake.f (k : Nat)  : Option (Bool) := (bitmap_Of.f (([1, 2] : List Int))).bind fun t123 => ((bitmap_Runs.f k t123 0 4).bind fun t124 => (if (t124.length : Int) = 3 then (if 1 < (t124.length : Int) then (if (rd_T50 t124 1).f2 = true then (if ((rd_T50 t124 1).f0) = 1 then (some (((rd_T50 t124 1).f1) == 3)) else (some false)) else (some false)) else (none)) else (some false)))
theorem spencelaw18_awake.mono : ∀ k, LeO (spencelaw18_awake.f k ) (spencelaw18_awake.f (k + 1) ) := by
  intro  k
  unfold spencelaw18_awake.f
  repeat' first
      | (with_reducible exact bitmap_Runs.mono _ _ _ _)
      | (with_reducible exact LeO.refl _)
      | (with_reducible exact LeO.none _)
      | (with_reducible refine LeO.ite ?_ ?_)
      | (with_reducible refine LeO.bind ?_ (fun _ => ?_))
      | exact bitmap_Runs.mono _ _ _ _
      | exact LeO.none _
      | refine LeO.ite ?_ ?_
      | refine LeO.bind ?_ (fun _ => ?_)
def spenceref01_In.l0 : Nat → Int → List Int → Int → Int → Option (Bool)
  | 0, _, _, _, _ => none
  | k + 1, x1, x7, x8, x9 => if x9 < x8 then (if 0 ≤ x9 then (if x9 < (x7.length : Int) then (if (rd x7 x9) = x1 then (some true) else (spenceref01_In.l0 k x1 x7 x8 (wrap64 (x9 + 1)))) else (none)) else (none)) else (some false)
def spenceref01_In.f (k : Nat) (l0 : List Int) (a1 : Int) : Option (Bool) := spenceref01_In.l0 k a1 l0 (l0.length : Int) 0
theorem spenceref01_In.mono_l : ∀ k, (∀ y0 y1 y2 y3, LeO (spenceref01_In.l0 k y0 y1 y2 y3) (spenceref01_In.l0 (k + 1) y0 y1 y2 y3))
  | 0 => fun _ _ _ _ r h => by simp [spenceref01_In.l0] at h
  | k + 1 => by
    have ih0 := spenceref01_In.mono_l k
    · intro y0 y1 y2 y3
      unfold spenceref01_In.l0
      repeat' first
      | (with_reducible exact ih0 _ _ _ _)
      | (with_reducible exact LeO.refl _)
      | (with_reducible exact LeO.none _)
      | (with_reducible refine LeO.ite ?_ ?_)
      | (with_reducible refine LeO.bind ?_ (fun _ => ?_))
      | exact ih0 _ _ _ _
      | exact LeO.none _
      | refine LeO.ite ?_ ?_
      | refine LeO.bind ?_ (fun _ => ?_)
theorem spenceref01_In.mono : ∀ a0 a1 k, LeO (spenceref01_In.f k a0 a1) (spenceref01_In.f (k + 1) a0 a1) := by
  intro a0 a1 k
  have ih0 := spenceref01_In.mono_l k
  unfold spenceref01_In.f
  repeat' first
      | (with_reducible exact ih0 _ _ _ _)
      | (with_reducible exact LeO.refl _)
      | (with_reducible exact LeO.none _)
      | (with_reducible refine LeO.ite ?_ ?_)
      | (with_reducible refine LeO.bind ?_ (fun _ => ?_))
      | exact ih0 _ _ _ _
      | exact LeO.none _
      | refine LeO.ite ?_ ?_
      | refine LeO.bind ?_ (fun _ => ?_)
set_option maxHeartbeats 8000000 in
set_option maxRecDepth 100000 in
theorem spenceref01_In.calls (k : Nat) (A0 : Option Addr) (c0 : Nat) (l0 : List Int) (a1 : Int) (r : Bool) (w : World) (hr0 : Kd.C (Kd.int .i64) w A0 l0.length l0) (hc0 : l0.length ≤ c0) (h : spenceref01_In.f k l0 a1 = some r) :
    Calls Tryd.prog 13 #[.slice A0 l0.length c0, .int .i64 a1] w fun e w' => e = .returned (.bool r) ∧ Drawn0 w w' := by
  have HR0 := AsZ.mk hr0
  have HC0 := AsZ.mk hc0
  clear hr0 hc0
  have H : (spenceref01_In.l0 k a1 l0 (l0.length : Int) 0) = some r := h
  clear h
  have H' := AsZ.mk H
  clear H
  go_enter Tryd.func13, Tryd.ntmps13
  go_wp2
  go_loopg [9] k (fun kq v9 w' => ∃ (x9_1 : Int), v9 = .int .i64 x9_1 ∧ AsZ (spenceref01_In.l0 kq a1 l0 (l0.length : Int) x9_1 = some r) ∧ AsZ (kq ≤ k) ∧ Drawn0 w w')
  case atStart => exact ⟨(0), (by first | rfl | (simp; done) | (simp [*]; done)), H', ⟨Nat.le_refl _⟩, by repeat (first | exact Drawn0.refl _ | apply Drawn0.step)⟩
  case round =>
    clear H'
    try clear c1
    try clear p2
    obtain ⟨x9_1, rfl, HA, HK1, ⟨m1, rfl⟩⟩ := hrel
    cases gk with
    | zero => exact absurd HA.out (by simp [spenceref01_In.l0])
    | succ k1 =>
      have H := HA.out
      clear HA
      simp only [spenceref01_In.l0] at H
      by_cases c3 : x9_1 < (l0.length : Int)
      · rw [if_pos c3] at H
        have c3b0 : decide (x9_1 < (l0.length : Int)) = true := decide_eq_true c3
        clear c3
        by_cases c4 : 0 ≤ x9_1
        · rw [if_pos c4] at H
          have c4b0 : decide (0 ≤ x9_1) = true := decide_eq_true c4
          clear c4
          by_cases c5 : x9_1 < (l0.length : Int)
          · rw [if_pos c5] at H
            have c5b0 : decide (x9_1 < (l0.length : Int)) = true := decide_eq_true c5
            clear c5
            by_cases c6 : (rd l0 x9_1) = a1
            · rw [if_pos c6] at H
              have c6b0 : ((rd l0 x9_1) == a1) = true := beq_iff_eq.mpr c6
              have c6b1 : ((rd l0 x9_1) != a1) = false := bne_eq_false_iff_eq.mpr c6
              clear c6
              obtain rfl := Option.some.inj H
              have p130 : 0 ≤ (x9_1 : Int) := of_decide_eq_true (by first | (with_reducible assumption) | assumption)
              have q130 : x9_1 < (l0.length : Int) := of_decide_eq_true (by first | (with_reducible assumption) | assumption)
              obtain ⟨ad130, e130, hx130_0⟩ := Kd.at_int HR0.out x9_1 p130 q130
              cases e130
              replace p130 := eq_true p130
              replace q130 := eq_true q130
              go_wp2
              go_ret
              exact ⟨by first | rfl | (simp; done) | (simp [*]; done) | exact nEm _ | exact eEm _, by repeat (first | exact Drawn0.refl _ | apply Drawn0.step)⟩
            · rw [if_neg c6] at H
              have c6b0 : ((rd l0 x9_1) == a1) = false := beq_eq_false_iff_ne.mpr c6
              have c6b1 : ((rd l0 x9_1) != a1) = true := bne_iff_ne.mpr c6
              have H' := AsZ.mk H
              clear H
              have p130 : 0 ≤ (x9_1 : Int) := of_decide_eq_true (by first | (with_reducible assumption) | assumption)
              have q130 : x9_1 < (l0.length : Int) := of_decide_eq_true (by first | (with_reducible assumption) | assumption)
              obtain ⟨ad130, e130, hx130_0⟩ := Kd.at_int HR0.out x9_1 p130 q130
              cases e130
              replace p130 := eq_true p130
              replace q130 := eq_true q130
              go_wp2
              go_roundg k1
              case measure => have := HK1.out; omega
              case rel => exact ⟨(wrap64 (x9_1 + 1)), (by first | rfl | (simp; done) | (simp [*]; done)), H', ⟨by have := HK1.out; omega⟩, by repeat (first | exact Drawn0.refl _ | apply Drawn0.step)⟩
          · rw [if_neg c5] at H
            exact absurd H (by simp)
        · rw [if_neg c4] at H
          exact absurd H (by simp)
      · rw [if_neg c3] at H
        have c3b0 : decide (x9_1 < (l0.length : Int)) = false := decide_eq_false c3
        clear c3
        obtain rfl := Option.some.inj H
        go_wp2
        go_ret
        exact ⟨by first | rfl | (simp; done) | (simp [*]; done) | exact nEm _ | exact eEm _, by repeat (first | exact Drawn0.refl _ | apply Drawn0.step)⟩
end Go.Proofs.YtcnlmpjoghogbaaDoor.PAll
namespace Go.Proofs.YtcnlmpjoghogbaaDoor.Ag
open Go.RowKit
def InU (f : Nat → Int) : Prop := ∀ j, ∃ n : Nat, f j = (n : Int) ∧ n < 2 ^ 64
theorem u64_wr (n : Int) (h0 : 0 ≤ n) (h1 : n < 2 ^ 64) : IntKind.u64.wrap n = n := by
  unfold IntKind.wrap
  simp [IntKind.bits, IntKind.signed]
  omega
theorem two_lt (r : Nat) (h : r < 64) : (2 ^ r : Nat) < 2 ^ 64 := Nat.pow_lt_pow_right (by decide) h
theorem two_cast (r : Nat) : (2 : Int) ^ r = ((2 ^ r : Nat) : Int) := by simp
theorem or_u (a b : Nat) (ha : a < 2 ^ 64) (hb : b < 2 ^ 64) : bits .or .u64 (a : Int) (b : Int) = ((a ||| b : Nat) : Int) := (bits_nat .u64 64 (by decide) u64_wr a b ha hb).2
theorem and_u (a b : Nat) (ha : a < 2 ^ 64) (hb : b < 2 ^ 64) : bits .and .u64 (a : Int) (b : Int) = ((a &&& b : Nat) : Int) := (bits_nat .u64 64 (by decide) u64_wr a b ha hb).1
theorem has_eq (f : Nat → Int) (hU : InU f) (i : Int) : hasF f i = (decide (0 ≤ i ∧ i ≤ 4096) && (f (i.toNat / 64)).toNat.testBit (i.toNat % 64)) := by
  unfold hasF
  obtain ⟨n, e, hn⟩ := hU (i.toNat / 64)
  congr 1
  rw [e, two_cast, Int.toNat_natCast]
  have h1 : ((n : Int) / ((2 ^ (i.toNat % 64) : Nat) : Int)) = ((n / 2 ^ (i.toNat % 64) : Nat) : Int) := rfl
  have h2 : n / 2 ^ (i.toNat % 64) < 2 ^ 64 := Nat.lt_of_le_of_lt (Nat.div_le_self _ _) hn
  rw [h1, show (1 : Int) = ((1 : Nat) : Int) from rfl, and_u _ 1 h2 (by decide), Nat.and_one_is_mod, Nat.testBit_eq_decide_div_mod_eq]
  generalize n / 2 ^ (i.toNat % 64) % 2 = m
  rw [Bool.eq_iff_iff, beq_iff_eq, decide_eq_true_eq]
  omega
theorem with_eq (f : Nat → Int) (hU : InU f) (i : Int) (h : 0 ≤ i ∧ i ≤ 4096) : withF f i = putF f (i.toNat / 64) (((f (i.toNat / 64)).toNat ||| 2 ^ (i.toNat % 64) : Nat) : Int) ∧ ((f (i.toNat / 64)).toNat ||| 2 ^ (i.toNat % 64)) < 2 ^ 64 := by
  obtain ⟨n, e, hn⟩ := hU (i.toNat / 64)
  have h2 := two_lt (i.toNat % 64) (Nat.mod_lt _ (by decide))
  unfold withF
  rw [if_pos h, e, two_cast, u64_wr _ (Int.natCast_nonneg _) (by exact_mod_cast h2), or_u _ _ hn h2, Int.toNat_natCast]
  exact ⟨rfl, Nat.or_lt_two_pow hn h2⟩
theorem zeroU : InU zeroF := fun _ => ⟨0, rfl, by decide⟩
theorem withU (f : Nat → Int) (hU : InU f) (i : Int) : InU (withF f i) := by
  by_cases h : 0 ≤ i ∧ i ≤ 4096
  · obtain ⟨e, hlt⟩ := with_eq f hU i h
    rw [e]
    intro j
    unfold putF
    split
    · exact ⟨_, rfl, hlt⟩
    · exact hU j
  · unfold withF; rw [if_neg h]; exact hU
theorem has_with (f : Nat → Int) (hU : InU f) (i j : Int) : hasF (withF f i) j = (hasF f j || (decide (0 ≤ i ∧ i ≤ 4096) && decide (i = j))) := by
  by_cases h : 0 ≤ i ∧ i ≤ 4096
  · rw [has_eq _ (withU f hU i), has_eq _ hU, decide_eq_true h, Bool.true_and]
    by_cases hj : 0 ≤ j ∧ j ≤ 4096
    · rw [decide_eq_true hj, Bool.true_and, Bool.true_and, (with_eq f hU i h).1]
      unfold putF
      by_cases hq : j.toNat / 64 = i.toNat / 64
      · rw [if_pos hq, Int.toNat_natCast, Nat.testBit_or, Nat.testBit_two_pow, hq]
        congr 1
        rw [decide_eq_decide]; omega
      · rw [if_neg hq, decide_eq_false (by omega), Bool.or_false]
    · rw [decide_eq_false hj, decide_eq_false (by omega)]; rfl
  · unfold withF; rw [if_neg h, decide_eq_false h, Bool.false_and, Bool.or_false]
theorem ofU (l : List Int) : ∀ f, InU f → InU (l.foldl withF f) := by
  induction l with
  | nil => exact fun _ h => h
  | cons x l ih => exact fun f h => ih _ (withU f h x)
theorem has_fold (l : List Int) (j : Int) : ∀ f, InU f → hasF (l.foldl withF f) j = (hasF f j || (decide (0 ≤ j ∧ j ≤ 4096) && decide (j ∈ l))) := by
  induction l with
  | nil => intro f _; simp
  | cons x l ih =>
    intro f h
    rw [List.foldl_cons, ih _ (withU f h x), has_with f h x j, Bool.or_assoc]
    congr 1
    rw [Bool.eq_iff_iff]
    simp only [Bool.or_eq_true, Bool.and_eq_true, decide_eq_true_eq, List.mem_cons]
    constructor
    · rintro (⟨h1, h2⟩ | ⟨h1, h2⟩)
      · exact ⟨by omega, .inl h2.symm⟩
      · exact ⟨h1, .inr h2⟩
    · rintro ⟨h1, h2 | h2⟩
      · exact .inl ⟨by omega, h2.symm⟩
      · exact .inr ⟨h1, h2⟩
theorem has_zero (j : Int) : hasF zeroF j = false := by
  rw [has_eq _ zeroU]
  simp [zeroF]
theorem has_of (l : List Int) (j : Int) : hasF (l.foldl withF zeroF) j = (decide (0 ≤ j ∧ j ≤ 4096) && decide (j ∈ l)) := by
  rw [has_fold l j _ zeroU, has_zero, Bool.false_or]
end Go.Proofs.YtcnlmpjoghogbaaDoor.Ag
namespace Go.Proofs.YtcnlmpjoghogbaaDoor.Ag
open Go.RowKit Go.Proofs.YtcnlmpjoghogbaaDoor.Xw Go.Proofs.YtcnlmpjoghogbaaDoorW.PrintWords Go.Proofs.YtcnlmpjoghogbaaDoorW.PrintLast Go.Proofs.YtcnlmpjoghogbaaDoorW.PrintMore
def eqF (n : Nat) (f1 f2 : Nat → Int) : Bool := (List.range n).all fun i => f1 i == f2 i
theorem row_items {P : Program} (w : World) (d : Nat) (e : TypeId) (k k' : IntKind) (n : Nat) (f1 f2 : Nat → Int) (he : P.underlying e = some (.int k')) : ∀ is : List Nat, (∀ i ∈ is, i < n) → (Op.eqItems (d + 1) e 1 (agC k n f1) (agC k n f2) is).run P w = .ok (is.all fun i => f1 i == f2 i) w
  | [], _ => by simp [Op.eqItems]
  | i :: is, h => by
    have hi := h i List.mem_cons_self
    have px : ∀ f, (part e (agC k n f) (i * 1)).run P w = .ok (.int k (f i)) w := fun f => by
      have := agC_get k n f i hi
      simp [part, isAgg, run_underlying he, this]
    have ih := row_items w d e k k' n f1 f2 he is (fun j hj => h j (List.mem_cons_of_mem _ hj))
    simp only [Op.eqItems, Sem.run_bind, px, Result.andThen_ok, run_equalIn_int w d e k k' _ _ he, List.all_cons]
    cases hb : (f1 i == f2 i)
    · simp
    · simp [ih]
theorem isAgg_agg {P : Program} (w : World) {t : TypeId} {n : Nat} {e : TypeId} (h : P.underlying t = some (.array n e)) : (isAgg t).run P w = .ok true w := by
  simp [isAgg, run_underlying h]
theorem map_eql (f1 f2 : Nat → Int) (w : World) : (binOp .eql 27 (.agg (agC .u64 65 f1)) (.agg (agC .u64 65 f2))).run Tryd.prog w = .ok (.bool (eqF 65 f1 f2)) w := by
  rw [run_eql_struct, run_equalIn_agg _ _ _ _ _ (by kernel_rfl) (by kernel_rfl)]
  obtain ⟨fd, hf, hn, ht, ho⟩ : ∃ fd, (Tryd.prog.fieldsOf 27).toList = [fd] ∧ (fd.name == "_") = false ∧ fd.type = 25 ∧ fd.offset = 0 := ⟨(Tryd.prog.fieldsOf 27).toList.headD default, by kernel_rfl, by kernel_rfl, by kernel_rfl, by kernel_rfl⟩
  have hi : (Tryd.prog.info? 25).map (·.size) = some 65 := by kernel_rfl
  obtain ⟨i1, hi1, hs1⟩ := Option.map_eq_some_iff.1 hi
  have hi' : (Tryd.prog.info? 24).map (·.size) = some 1 := by kernel_rfl
  obtain ⟨i2, hi2, hs2⟩ := Option.map_eq_some_iff.1 hi'
  have px : ∀ f, (part fd.type (agC .u64 65 f) fd.offset).run Tryd.prog w = .ok (.agg (agC .u64 65 f)) w := fun f => by
    rw [ht, ho]
    simp only [part, Sem.run_bind, isAgg_agg w Tryd.underlying25, Result.andThen_ok, if_true, run_sizeOf w hi1, Sem.run_pure, Nat.zero_add]
    rw [show Tryd.prog.cellsOf 25 = (agC .u64 65 f).size by rw [agC_size]; kernel_rfl, Array.extract_size]
  rw [hf]
  have hn' : fd.name ≠ "_" := by simpa using hn
  have hc : Tryd.prog.cellsOf 24 = 1 := by kernel_rfl
  simp only [Op.eqFields, hn', ne_eq, not_false_eq_true, if_true, Sem.run_bind, px, Result.andThen_ok]
  rw [ht, run_equalIn_array w 9998 _ _ Tryd.underlying25 hi2, hc, row_items w 9997 24 .u64 .u64 65 f1 f2 Tryd.underlying24 _ (fun i h => List.mem_range.1 h)]
  unfold eqF
  cases ((List.range 65).all fun i => f1 i == f2 i) <;> rfl
end Go.Proofs.YtcnlmpjoghogbaaDoor.Ag
namespace Go.Proofs.YtcnlmpjoghogbaaDoor.Ag
open Go.RowKit
def bitF (f : Nat → Int) (j : Nat) : Bool := (f (j / 64)).toNat.testBit (j % 64)
theorem bit_with (f : Nat → Int) (hU : InU f) (i : Int) (j : Nat) : bitF (withF f i) j = (bitF f j || (decide (0 ≤ i ∧ i ≤ 4096) && decide (i = j))) := by
  by_cases h : 0 ≤ i ∧ i ≤ 4096
  · unfold bitF
    rw [decide_eq_true h, Bool.true_and, (with_eq f hU i h).1]
    unfold putF
    by_cases hq : j / 64 = i.toNat / 64
    · rw [if_pos hq, Int.toNat_natCast, Nat.testBit_or, Nat.testBit_two_pow, hq]
      congr 1
      rw [decide_eq_decide]; omega
    · rw [if_neg hq, decide_eq_false (by omega), Bool.or_false]
  · unfold withF; rw [if_neg h, decide_eq_false h, Bool.false_and, Bool.or_false]
theorem bit_fold (l : List Int) (j : Nat) : ∀ f, InU f → bitF (l.foldl withF f) j = (bitF f j || (decide (j ≤ 4096) && decide ((j : Int) ∈ l))) := by
  induction l with
  | nil => intro f _; simp
  | cons x l ih =>
    intro f h
    rw [List.foldl_cons, ih _ (withU f h x), bit_with f h x j, Bool.or_assoc]
    congr 1
    rw [Bool.eq_iff_iff]
    simp only [Bool.or_eq_true, Bool.and_eq_true, decide_eq_true_eq, List.mem_cons]
    constructor
    · rintro (⟨h1, h2⟩ | ⟨h1, h2⟩)
      · exact ⟨by omega, .inl h2.symm⟩
      · exact ⟨h1, .inr h2⟩
    · rintro ⟨h1, h2 | h2⟩
      · exact .inl ⟨by omega, h2.symm⟩
      · exact .inr ⟨h1, h2⟩
def ofF (l : List Int) : Nat → Int := l.foldl withF zeroF
theorem of_U (l : List Int) : InU (ofF l) := ofU l _ zeroU
theorem bit_of (l : List Int) (j : Nat) : bitF (ofF l) j = (decide (j ≤ 4096) && decide ((j : Int) ∈ l)) := by
  unfold ofF
  rw [bit_fold l j _ zeroU]
  simp [bitF, zeroF]
end Go.Proofs.YtcnlmpjoghogbaaDoor.Ag
namespace Go.Proofs.YtcnlmpjoghogbaaDoor.Ag
open Go.RowKit
/-- the places of the bits of n that are set, below 64 -/
def posL (n : Nat) : List Nat := (List.range 64).filter n.testBit
theorem posL_zero : posL 0 = [] := by
  unfold posL
  rw [List.filter_eq_nil_iff]
  intro a _
  simp
theorem low_bit (n : Nat) (h0 : n ≠ 0) (hn : n < 2 ^ 64) : ∃ m, n = 2 ^ Lib.ctz 64 n * (2 * m + 1) ∧ Lib.ctz 64 n < 64 := by
  have := Lib.ctzFrom_spec 64 n (by omega) hn
  unfold Lib.ctz
  rw [if_neg h0]
  exact this
theorem less_one (k m : Nat) (j : Nat) : ((2 ^ k * (2 * m + 1)) &&& (2 ^ k * (2 * m + 1) - 1)).testBit j = ((2 ^ k * (2 * m + 1)).testBit j && decide (j ≠ k)) := by
  have e : 2 ^ k * (2 * m + 1) - 1 = 2 ^ (k + 1) * m + (2 ^ k - 1) := by
    have h1 : 0 < 2 ^ k := Nat.two_pow_pos k
    have h2 : 2 ^ k * (2 * m + 1) = 2 ^ (k + 1) * m + 2 ^ k := by rw [Nat.mul_add, Nat.mul_one, Nat.pow_succ, Nat.mul_assoc]
    omega
  have e2 : 2 ^ k * (2 * m + 1) = 2 ^ (k + 1) * m + 2 ^ k := by rw [Nat.mul_add, Nat.mul_one, Nat.pow_succ, Nat.mul_assoc]
  have hlt : 2 ^ k - 1 < 2 ^ (k + 1) := by rw [Nat.pow_succ]; have := Nat.two_pow_pos k; omega
  have hlt2 : 2 ^ k < 2 ^ (k + 1) := by rw [Nat.pow_succ]; have := Nat.two_pow_pos k; omega
  rw [Nat.testBit_and, e, e2, Nat.testBit_two_pow_mul_add _ hlt, Nat.testBit_two_pow_mul_add _ hlt2]
  by_cases h : j < k + 1
  · rw [if_pos h, if_pos h, Nat.testBit_two_pow_sub_one, Nat.testBit_two_pow]
    by_cases hk : j = k
    · subst hk; simp
    · have : ¬ k = j := fun e => hk e.symm
      simp [this]
  · rw [if_neg h, if_neg h]
    have : j ≠ k := by omega
    simp [this]
theorem posL_step (n : Nat) (h0 : n ≠ 0) (hn : n < 2 ^ 64) : posL n = Lib.ctz 64 n :: posL (n &&& (n - 1)) := by
  obtain ⟨m, hm, hk⟩ := low_bit n h0 hn
  generalize Lib.ctz 64 n = k at hm hk
  subst hm
  have hsplit : List.range 64 = List.range k ++ k :: List.range' (k + 1) (63 - k) := by
    have h1 : (64 : Nat) = k + (63 - k + 1) := by omega
    have h2 : List.range (k + (63 - k + 1)) = List.range k ++ List.range' k (63 - k + 1) := by
      rw [List.range_eq_range', List.range_eq_range']
      have := @List.range'_append_1 0 k (63 - k + 1)
      rw [Nat.zero_add] at this
      exact this.symm
    rw [h1, h2, List.range'_succ]
  have e2 : 2 ^ k * (2 * m + 1) = 2 ^ (k + 1) * m + 2 ^ k := by rw [Nat.mul_add, Nat.mul_one, Nat.pow_succ, Nat.mul_assoc]
  have hlt2 : 2 ^ k < 2 ^ (k + 1) := by rw [Nat.pow_succ]; have := Nat.two_pow_pos k; omega
  have hlow : ∀ j, j < k → (2 ^ k * (2 * m + 1)).testBit j = false := fun j hj => by
    rw [e2, Nat.testBit_two_pow_mul_add _ hlt2, if_pos (by omega), Nat.testBit_two_pow]
    simp; omega
  have hat : (2 ^ k * (2 * m + 1)).testBit k = true := by
    rw [e2, Nat.testBit_two_pow_mul_add _ hlt2, if_pos (by omega), Nat.testBit_two_pow]
    simp
  unfold posL
  rw [hsplit, List.filter_append, List.filter_append, List.filter_cons, List.filter_cons, hat, less_one, hat]
  have z1 : (List.range k).filter (2 ^ k * (2 * m + 1)).testBit = [] := by
    rw [List.filter_eq_nil_iff]; intro a ha; rw [hlow a (List.mem_range.1 ha)]; decide
  have z2 : (List.range k).filter (((2 ^ k * (2 * m + 1)) &&& (2 ^ k * (2 * m + 1) - 1))).testBit = [] := by
    rw [List.filter_eq_nil_iff]; intro a ha; rw [less_one, hlow a (List.mem_range.1 ha)]; simp
  have z3 : (List.range' (k + 1) (63 - k)).filter (((2 ^ k * (2 * m + 1)) &&& (2 ^ k * (2 * m + 1) - 1))).testBit = (List.range' (k + 1) (63 - k)).filter (2 ^ k * (2 * m + 1)).testBit := by
    refine List.filter_congr fun a ha => ?_
    rw [less_one]
    have : a ≠ k := by have := (List.mem_range'_1.1 ha).1; omega
    simp [this]
  rw [z1, z2, z3]
  simp
theorem and_less (n : Nat) (h0 : n ≠ 0) : (n &&& (n - 1)) < n := Nat.lt_of_le_of_lt Nat.and_le_right (by omega)
/-- the numbers of one word -/
def wordL (k n : Nat) : List Int := (posL n).map fun i : Nat => ((k * 64 + i : Nat) : Int)
/-- the numbers from word k on -/
def restF (f : Nat → Int) : Nat → Nat → List Int
  | 0, _ => []
  | d + 1, k => wordL k (f k).toNat ++ restF f d (k + 1)
/-- the numbers that a map has, rising -/
def allF (f : Nat → Int) : List Int := restF f 65 0
theorem word_step (k n : Nat) (h0 : n ≠ 0) (hn : n < 2 ^ 64) : wordL k n = ((k * 64 + Lib.ctz 64 n : Nat) : Int) :: wordL k (n &&& (n - 1)) := by
  unfold wordL
  rw [posL_step n h0 hn]
  rfl
theorem word_zero (k : Nat) : wordL k 0 = [] := by unfold wordL; rw [posL_zero]; rfl
theorem word_len (k n : Nat) : (wordL k n).length ≤ 64 := by
  unfold wordL posL
  rw [List.length_map]
  have := List.length_filter_le n.testBit (List.range 64)
  simpa using this
theorem rest_len (f : Nat → Int) : ∀ d k, (restF f d k).length ≤ 64 * d
  | 0, _ => by simp [restF]
  | d + 1, k => by
    have h1 := word_len k (f k).toNat
    have h2 := rest_len f d (k + 1)
    rw [restF, List.length_append]; omega
theorem all_len (f : Nat → Int) : (allF f).length ≤ 4160 := rest_len f 65 0
end Go.Proofs.YtcnlmpjoghogbaaDoor.Ag
namespace Go.Proofs.YtcnlmpjoghogbaaDoor.Ag
open Go.RowKit Go.Shelf Go.Proofs.YtcnlmpjoghogbaaDoor.Xw Go.Proofs.YtcnlmpjoghogbaaDoorW.PrintWords Go.Proofs.YtcnlmpjoghogbaaDoorW.PrintLast Go.Proofs.YtcnlmpjoghogbaaDoorW.PrintMore
attribute [local go_sem] Oper.semAt_some
theorem all_calls (f : Nat → Int) (w : World) : Calls Tryd.prog 12 #[.agg (agC .u64 65 f)] w fun e w' => e = .returned (.func (.func 43) #[] #[.pointer (some ⟨w.heap.size, 0, none⟩)]) ∧ w' = w.alloc (.cells (agC .u64 65 f) 27 (0, 0)) := by
  go_enter Tryd.func12, Tryd.ntmps12
  go_wp2
  go_ret
  exact ⟨rfl, rfl⟩
def ldArr (v : Value) : Sem Value := Instr.loadAt 25 v
theorem ldArr_eq (v : Value) : Instr.loadAt 25 v = ldArr v := rfl
theorem info_arr : (Tryd.prog.info? 25).map (·.size) = some 65 := by kernel_rfl
theorem Holds.ldA {g : Nat} {f : Nat → Int} {w : World} (h : Holds g f w) : (ldArr (.pointer (some ⟨g, 0, none⟩))).run Tryd.prog w = .ok (.agg (agC .u64 65 f)) w := by
  have hl : (loadVar 25 ⟨g, 0, none⟩).run Tryd.prog w = .ok (.agg (agC .u64 65 f)) w := by
    refine run_loadVar_mid w g 0 25 (agC .u64 65 f).toList _ ?_ Tryd.underlying25 rfl (by rw [info_arr]; simp [agC])
    intro j v hv
    rw [Nat.zero_add]
    have := bCe h j
    rw [Array.getElem?_toList] at hv
    rw [this]; exact hv
  simp only [ldArr, Instr.loadAt, Instr.sureAddr, Sem.run_bind, Sem.run_pure, Result.andThen_ok, hl]
attribute [local go_sem ↓] ldArr_eq
theorem idx_row (f : Nat → Int) (k : Nat) (hk : k < 65) (w : World) : (Instr.index 25 (.agg (agC .u64 65 f)) (.int .i64 k)).run Tryd.prog w = .ok (.int .u64 (f k)) w := by
  have hg := agC_get .u64 65 f k hk
  have hi' : (Tryd.prog.info? 24).map (·.size) = some 1 := by kernel_rfl
  obtain ⟨i2, hi2, hs2⟩ := Option.map_eq_some_iff.1 hi'
  have px : (part 24 (agC .u64 65 f) (k * 1)).run Tryd.prog w = .ok (.int .u64 (f k)) w := by
    simp [part, isAgg, run_underlying Tryd.underlying24, hg]
  have hc : Tryd.prog.cellsOf 24 = 1 := by kernel_rfl
  simp only [Instr.index, asIntOf, Sem.run_bind, Sem.run_pure, Result.andThen_ok, run_underlying Tryd.underlying25]
  rw [if_pos (by omega)]
  simp only [Sem.run_bind, run_sizeOf w hi2, hc, Result.andThen_ok, Int.toNat_natCast, px]
set_option maxRecDepth 100000 in
set_option maxHeartbeats 4000000 in
theorem all1_in (n : Nat) (hn : 1 ≤ n) (l Bm n₀ : Nat) (f : Nat → Int) (hU : InU f) (hn₀ : 0 < n₀) (J Jx : List Int → World → Prop)
    (hY : ∀ pre x W, J pre W → pre.length < (allF f).length → YieldAt Fence.wide (n - 1) Tryd.prog l #[.int .i64 x] W fun e W' =>
      (e = .returned (.bool true) ∧ J (pre ++ [x]) W' ∧ Below n₀ W W') ∨ (e = .returned (.bool false) ∧ Jx (pre ++ [x]) W'))
    (W : World) (hBm : Holds Bm f W) (hT : TabW W) (h0 : J [] W) :
    CallsIn Fence.wide n Tryd.prog 43 #[.func (.yield l) #[] #[], .pointer (some ⟨Bm, 0, none⟩)] W fun e W' => (∃ v, e = .returned v) ∧
      ((∃ ys, ys = allF f ∧ J ys W') ∨ (∃ pre, pre <+: allF f ∧ Jx pre W')) := by
  refine callsIn_of_wp Tryd.func43 rfl trivial ?_ rfl
  simp only [Tryd.ntmps43, List.size_toArray, List.length_cons, List.length_nil, Nat.reduceAdd, Nat.reduceSub, Array.replicate_succ, Array.replicate_zero, List.push_toArray, List.append_toArray, List.nil_append, List.cons_append]
  have L := hBm.ldA
  replace hT := AsZ.mk hT
  gi_wp2
  gi_loopw [3, 4, 7] (fun _ _ s7 wr => ∃ (pre : List Int) (k : Nat), k ≤ 65 ∧ s7 = .int .i64 k ∧ allF f = pre ++ restF f (65 - k) k ∧ J pre wr ∧ AsZ (Below n₀ W wr))
    (fun _ _ s7 _ => 65 - (intOf s7).toNat)
  case atStart => exact ⟨[], 0, by omega, rfl, rfl, h0, ⟨Below.refl _ _⟩⟩
  case round =>
    obtain ⟨pre, k, hk, rfl, hx, hJs, hb⟩ := hrel
    by_cases hlt : k < 65
    · have hltz : (k : Int) < 65 := by omega
      have hidx := idx_row f k hlt
      obtain ⟨m, hfm, hm⟩ := hU k
      rw [hfm] at hidx
      have hx2 : allF f = pre ++ (wordL k m ++ restF f (64 - k) (k + 1)) := by
        rw [hx, show 65 - k = (64 - k) + 1 by omega, restF, hfm, Int.toNat_natCast]
      clear hx hlt hfm
      gi_wp2
      gi_loopw [4] (fun s4 wr2 => ∃ (pre2 : List Int) (m2 : Nat), m2 < 2 ^ 64 ∧ s4 = .int .u64 m2 ∧ allF f = pre2 ++ (wordL k m2 ++ restF f (64 - k) (k + 1)) ∧ J pre2 wr2 ∧ AsZ (Below n₀ W wr2))
        (fun s4 _ => (intOf s4).toNat)
      case atStart => exact ⟨pre, m, hm, rfl, hx2, hJs, hb⟩
      case round =>
        clear hx2 hJs hb hm hidx
        obtain ⟨pre2, m2, hm2, rfl, hx, hJs, hb⟩ := hrel
        by_cases hz : m2 = 0
        · subst hz
          rw [word_zero, List.nil_append] at hx
          gi_wp2
          refine ⟨⟨pre2, k + 1, by omega, by go_num, by rw [hx, show 65 - (k + 1) = 64 - k by omega], hJs, hb⟩, ?_⟩
          simp [intOf]; omega
        · have hz' : ((m2 : Int) != 0) = true := by simp; omega
          have hpos : (1 : Int) ≤ (m2 : Int) := by omega
          have hub : (m2 : Int) ≤ 18446744073709551615 := by omega
          have hctz : Lib.ctz 64 m2 < 64 := by obtain ⟨_, _, h⟩ := low_bit m2 hz hm2; exact h
          have hct := tz_calls m2 hm2 hz wr (hT.out.below hb.out hn₀)
          have hk2 : (k : Int) ≤ 64 := by omega
          have hws := word_step k m2 hz hm2
          have hand : bits .and .u64 (m2 : Int) ((m2 : Int) - 1) = ((m2 &&& (m2 - 1) : Nat) : Int) := by
            rw [show (m2 : Int) - 1 = ((m2 - 1 : Nat) : Int) by omega]
            exact and_u m2 (m2 - 1) hm2 (by omega)
          have hlt2 := and_less m2 hz
          rw [hws] at hx
          generalize Lib.ctz 64 m2 = c at hctz hct hx hws
          have hc2 : (c : Int) ≤ 63 := by omega
          have hc0 : (0 : Int) ≤ (c : Int) := by omega
          have hx' : allF f = (pre2 ++ [(k : Int) * 64 + (c : Int)]) ++ (wordL k (m2 &&& (m2 - 1)) ++ restF f (64 - k) (k + 1)) := by
            rw [hx]; simp
          obtain ⟨fn, tmps, assign, body, hy, hR⟩ := hY pre2 ((k : Int) * 64 + (c : Int)) wr hJs (by rw [hx']; simp)
          clear hws hx
          replace hx' := AsZ.mk hx'
          gi_wp2_with (refine ⟨trivial, ?_⟩; gi_at_call 44; refine (callsIn_wide.2 hct).mono ?_; rintro e w' ⟨rfl, rfl⟩)
          refine hR.mono ?_
          rintro e W3 (⟨rfl, hJ3, hk3⟩ | ⟨rfl, hJx3⟩)
          · gi_wp2
            exact ⟨⟨_, m2 &&& (m2 - 1), Nat.lt_trans hlt2 hm2, rfl, hx'.out, hJ3, ⟨hb.out.trans hk3⟩⟩, by simp only [intOf, Int.toNat_natCast]; exact hlt2⟩
          · gi_wp2
            refine bodyPost_ret (results_none rfl _ _ _) rfl ?_
            exact ⟨⟨_, rfl⟩, .inr ⟨_, ⟨_, hx'.out.symm⟩, hJx3⟩⟩
    · obtain rfl : k = 65 := by omega
      have hltz : ¬ ((65 : Nat) : Int) < 65 := by omega
      replace hx := AsZ.mk (show allF f = pre by rw [hx]; simp [restF])
      gi_wp2
      go_end0
      exact ⟨⟨_, rfl⟩, .inl (by rw [hx.out]; exact hJs)⟩
/-- m.All()'s value, wherever the map lies in a block: all of its numbers, rising, or those till a round said 'no more'. -/
theorem all_stops (n : Nat) (hn : 1 ≤ n) (Bm n₀ : Nat) (f : Nat → Int) (hU : InU f) (w : World) (hn₀ : 0 < n₀) (hm : Holds Bm f w) (hT : TabW w) :
    SeqStopsK Fence.wide n Tryd.prog 43 #[.pointer (some ⟨Bm, 0, none⟩)] (fun x : Int => #[Value.int .i64 x]) (Below n₀) (fun ys => ys = allF f) (fun pre => pre <+: allF f) (allF f).length w :=
  fun l J Jx W hW _ _ hY h0 => all1_in n hn l Bm n₀ f hU hn₀ J Jx hY W (bBl hm hW) (hT.step hW) h0
end Go.Proofs.YtcnlmpjoghogbaaDoor.Ag
namespace Go.Proofs.YtcnlmpjoghogbaaDoor.Pure
open Go.RowKit Go.Proofs.YtcnlmpjoghogbaaDoorW.PrintWords Go.Proofs.YtcnlmpjoghogbaaDoorW.PrintLast Go.Proofs.YtcnlmpjoghogbaaDoorW.PrintMore
theorem Ev.succ {α : Type} {g : Nat → Option α} {r : α} (h : Ev (fun k => g (k + 1)) r) : Ev g r := Ev.step (fun _ => rfl) h
theorem Ev.all {α : Type} {g : Nat → Option α} {r : α} (h : ∀ k, g k = some r) : Ev g r := ⟨0, fun k _ => h k⟩
theorem Ev.pos {α : Type} {g : Nat → Option α} {r : α} (h : ∀ k, g (k + 1) = some r) : Ev g r := ⟨1, fun k hk => by obtain ⟨j, rfl⟩ : ∃ j, k = j + 1 := ⟨k - 1, by omega⟩; exact h j⟩
theorem wrap_id {x : Int} (h : -9223372036854775808 ≤ x ∧ x ≤ 9223372036854775807) : wrap64 x = x := by unfold wrap64; omega
theorem mn_le (a b : Int) : mn a b ≤ a ∧ mn a b ≤ b ∧ (mn a b = a ∨ mn a b = b) := by unfold mn; split <;> omega
theorem mx_le (a b : Int) : a ≤ mx a b ∧ b ≤ mx a b ∧ (mx a b = a ∨ mx a b = b) := by unfold mx; split <;> omega
theorem mn_eq (a b : Int) : mn a b = min a b := by unfold mn; split <;> omega
theorem mx_eq (a b : Int) : mx a b = max a b := by unfold mx; split <;> omega
end Go.Proofs.YtcnlmpjoghogbaaDoor.Pure
namespace Go.Proofs.YtcnlmpjoghogbaaDoor.Ag
open Go.RowKit
/-- the numbers of a list that may be, rising, each once -/
def srt (l : List Int) : List Int := ((List.range 4097).filter fun i : Nat => decide ((i : Int) ∈ l)).map fun i : Nat => (i : Int)
theorem word_filter (f : Nat → Int) (k : Nat) : wordL k (f k).toNat = ((List.range' (64 * k) 64).filter (bitF f)).map fun i : Nat => (i : Int) := by
  have e : List.range' (64 * k) 64 = (List.range 64).map fun i => 64 * k + i := by rw [List.range_eq_range', List.map_add_range']; rfl
  rw [e, List.filter_map, List.map_map]
  unfold wordL posL
  have h1 : (List.range 64).filter (bitF f ∘ fun i => 64 * k + i) = (List.range 64).filter (f k).toNat.testBit := by
    refine List.filter_congr fun a ha => ?_
    have := List.mem_range.1 ha
    show bitF f (64 * k + a) = _
    unfold bitF
    rw [show (64 * k + a) / 64 = k by omega, show (64 * k + a) % 64 = a by omega]
  rw [h1]
  refine List.map_congr_left fun a _ => ?_
  show ((k * 64 + a : Nat) : Int) = ((64 * k + a : Nat) : Int)
  rw [Nat.mul_comm]
theorem rest_filter (f : Nat → Int) : ∀ d k, restF f d k = ((List.range' (64 * k) (64 * d)).filter (bitF f)).map fun i : Nat => (i : Int)
  | 0, k => by simp [restF]
  | d + 1, k => by
    rw [restF, rest_filter f d (k + 1), word_filter, ← List.map_append, ← List.filter_append]
    have := @List.range'_append_1 (64 * k) 64 (64 * d)
    rw [show 64 * (d + 1) = 64 + 64 * d by omega, show 64 * (k + 1) = 64 * k + 64 by omega, this]
theorem all_filter (f : Nat → Int) : allF f = ((List.range 4160).filter (bitF f)).map fun i : Nat => (i : Int) := by
  have h := rest_filter f 65 0
  rw [show 64 * 0 = 0 by rfl, show 64 * 65 = 4160 by rfl, ← List.range_eq_range'] at h
  exact h
theorem all_of (l : List Int) : allF (ofF l) = srt l := by
  rw [all_filter]
  unfold srt
  refine congrArg (List.map fun i : Nat => (i : Int)) ?_
  have e : List.range 4160 = List.range 4097 ++ List.range' 4097 63 := by
    rw [List.range_eq_range', List.range_eq_range']
    have := @List.range'_append_1 0 4097 63
    rw [Nat.zero_add] at this
    exact this.symm
  rw [e, List.filter_append]
  have h1 : (List.range 4097).filter (bitF (ofF l)) = (List.range 4097).filter fun i : Nat => decide ((i : Int) ∈ l) := by
    refine List.filter_congr fun a ha => ?_
    rw [bit_of, decide_eq_true (by have := List.mem_range.1 ha; omega), Bool.true_and]
  have h2 : (List.range' 4097 63).filter (bitF (ofF l)) = [] := by
    rw [List.filter_eq_nil_iff]
    intro a ha
    have := (List.mem_range'_1.1 ha).1
    rw [bit_of, decide_eq_false (by omega)]
    simp
  rw [h1, h2, List.append_nil]
/-- the first i numbers looked at -/
def srtTo (l : List Int) (i : Nat) : List Int := ((List.range i).filter fun i : Nat => decide ((i : Int) ∈ l)).map fun i : Nat => (i : Int)
theorem srtTo_succ (l : List Int) (i : Nat) : srtTo l (i + 1) = srtTo l i ++ (if (i : Int) ∈ l then [(i : Int)] else []) := by
  unfold srtTo
  rw [List.range_succ, List.filter_append, List.map_append, List.filter_cons]
  congr 1
  by_cases h : (i : Int) ∈ l
  · simp [h]
  · simp [h]
theorem srtTo_full (l : List Int) : srtTo l 4097 = srt l := rfl
theorem sub_len : ∀ (s l : List Int), s.Nodup → (∀ x ∈ s, x ∈ l) → s.length ≤ l.length
  | [], l, _, _ => by simp
  | x :: s, l, hn, hs => by
    have hx := hs x List.mem_cons_self
    have h1 := sub_len s (l.erase x) (List.nodup_cons.1 hn).2 (fun y hy => by
      have hne : y ≠ x := fun e => (List.nodup_cons.1 hn).1 (e ▸ hy)
      exact (List.mem_erase_of_ne hne).2 (hs y (List.mem_cons_of_mem _ hy)))
    rw [List.length_erase_of_mem hx] at h1
    have := List.length_pos_of_mem hx
    rw [List.length_cons]; omega
theorem srtTo_mem (l : List Int) (i : Nat) (x : Int) : x ∈ srtTo l i ↔ x ∈ l ∧ 0 ≤ x ∧ x < i := by
  unfold srtTo
  simp only [List.mem_map, List.mem_filter, List.mem_range, decide_eq_true_eq]
  constructor
  · rintro ⟨j, ⟨h1, h2⟩, rfl⟩; exact ⟨h2, by omega, by omega⟩
  · rintro ⟨h1, h2, h3⟩; exact ⟨x.toNat, ⟨by omega, by rw [Int.toNat_of_nonneg h2]; exact h1⟩, by omega⟩
theorem srtTo_nodup (l : List Int) (i : Nat) : (srtTo l i).Nodup := by
  induction i with
  | zero => simp [srtTo]
  | succ i ih =>
    rw [srtTo_succ]
    split
    · rw [List.nodup_append]
      refine ⟨ih, by simp, fun a ha b hb => ?_⟩
      have := (srtTo_mem l i a).1 ha
      rw [List.mem_singleton] at hb
      omega
    · simpa using ih
/-- all were found: no more comes -/
theorem srtTo_stop (l : List Int) (i : Nat) (hi : i ≤ 4097) (h : l.length ≤ (srtTo l i).length) : srtTo l i = srt l := by
  have key : ∀ d, i + d ≤ 4097 → srtTo l (i + d) = srtTo l i := by
    intro d
    induction d with
    | zero => intro _; rfl
    | succ d ih =>
      intro hd
      rw [← Nat.add_assoc, srtTo_succ, ih (by omega), if_neg, List.append_nil]
      intro hm
      have h1 := srtTo_nodup l (i + d + 1)
      have h2 := sub_len _ l h1 (fun x hx => ((srtTo_mem l _ x).1 hx).1)
      rw [srtTo_succ, if_pos hm, ih (by omega), List.length_append] at h2
      simp at h2
      omega
  rw [← srtTo_full, show 4097 = i + (4097 - i) by omega, key _ (by omega)]
end Go.Proofs.YtcnlmpjoghogbaaDoor.Ag
namespace Go.Proofs.YtcnlmpjoghogbaaDoor.Ag
open Go.RowKit Go.Shelf Go.Proofs.YtcnlmpjoghogbaaDoor.Xw Go.Proofs.YtcnlmpjoghogbaaDoor.PAll Go.Proofs.YtcnlmpjoghogbaaDoorW.PrintWords Go.Proofs.YtcnlmpjoghogbaaDoorW.PrintLast Go.Proofs.YtcnlmpjoghogbaaDoorW.PrintMore
attribute [local go_sem] Oper.semAt_some
attribute [local go_sem ↓] Go.wp_at_zero Go.wp_at_succ map_eql ldMap_eq
theorem info_run : (Tryd.prog.info? 50).map (fun i => (i.zero, i.size, i.bytes)) = some (some (.agg #[.int .i64 0, .int .i64 0, .bool false]), 3, 24) := by kernel_rfl
/-- One number more: it is in the last run, or begins one. -/
def splitStep (h : Int → Bool) (xs : List S50) (x : Int) : List S50 :=
  if 0 < xs.length ∧ (rd_T50 xs ((xs.length : Int) - 1)).f1 = x ∧ (rd_T50 xs ((xs.length : Int) - 1)).f2 = h x then
    xs.set ((xs.length : Int) - 1).toNat ⟨(rd_T50 xs ((xs.length : Int) - 1)).f0, wrap64 ((rd_T50 xs ((xs.length : Int) - 1)).f1 + 1), (rd_T50 xs ((xs.length : Int) - 1)).f2⟩
  else xs ++ [⟨x, wrap64 (x + 1), h x⟩]
def splitAll (h : Int → Bool) (l : List Int) : List S50 := l.foldl (splitStep h) []
theorem splitAll_snoc (h : Int → Bool) (l : List Int) (x : Int) : splitAll h (l ++ [x]) = splitStep h (splitAll h l) x := by simp [splitAll]
theorem splitStep_len (h : Int → Bool) (xs : List S50) (x : Int) : (splitStep h xs x).length ≤ xs.length + 1 := by unfold splitStep; split <;> simp
theorem splitAll_len (h : Int → Bool) (l : List Int) : (splitAll h l).length ≤ l.length := by
  have go : ∀ (l : List Int) (xs : List S50), (l.foldl (splitStep h) xs).length ≤ xs.length + l.length := by
    intro l
    induction l with
    | nil => intro xs; simp
    | cons x l ih => intro xs; have := ih (splitStep h xs x); have := splitStep_len h xs x; simp only [List.foldl_cons, List.length_cons]; omega
  simpa [splitAll] using go l []
theorem row_kept {α : Type} {d : Kd α} {X Y : World} {n₀ e : Nat} {v : Value} {xs : List α} {row : Option Nat} (hr : Kd.R d e X n₀ (fun _ => True) v xs) (hg : X.grownBy Y row) (hrow : ∀ r, row = some r → ∃ o : Obj, X.heap[r]? = some o ∧ o.isCells = false) : Kd.R d e Y n₀ (fun _ => True) v xs := by
  refine Kd.R_mono (Kd.R_grown (Kd.R_bound hr) hg (fun k hk e' => ?_)) (fun _ _ => trivial)
  obtain ⟨_, _, _, q, _, cells, hcl⟩ := hk
  obtain ⟨o, ho, hc⟩ := hrow k e'.symm
  rw [hcl] at ho; cases ho; cases hc
theorem keeps_of_below {W W' : World} (h : Below W.heap.size W W') (B : Nat) : KeepsFrom B W W' := ⟨h.size, fun k _ _ hk _ => (h.block k (bLt hk)).trans hk⟩
theorem own_alloc_ {w : World} {base e size n : Nat} {v : Value} {xs : List Value} (h : w.ownsRow base e size v n xs) (o : Obj) : (w.alloc o).ownsRow base e size v n xs := h.alloc o
/-- A row of one's own that lies in a variable: kept when others' memory grows. -/
theorem boxRow_own {α β : Type} {d : Kd α} (n₀ B : Nat) (t e : TypeId) (k : β → List α) : Own (fun s W => ∃ v, Boxed W B t v ∧ Kd.R d e W n₀ (fun _ => True) v (k s)) := by
  rintro s X Y row ⟨v, hb, hr⟩ hg hrow
  refine ⟨v, hb.kept hg (fun e' => ?_), ?_⟩
  · obtain ⟨o, ho, hc⟩ := hrow B e'.symm
    rw [show X.heap[B]? = _ from hb] at ho; cases ho; cases hc
  · exact row_kept hr hg hrow
set_option maxRecDepth 100000 in
set_option maxHeartbeats 4000000 in
theorem split_calls (A0 : Option Addr) (c0 : Nat) (l0 : List Int) (f : Nat → Int) (w : World) (hr0 : Kd.C (Kd.int .i64) w A0 l0.length l0) (hc0 : l0.length ≤ c0) (hT : TabW w) :
    Calls Tryd.prog 21 #[.slice A0 l0.length c0, .agg (agC .u64 65 f)] w fun e w' => ∃ v, e = .returned v ∧ Kd.R k50 50 w' w.heap.size (fun _ => True) v (splitAll (hasF f) (srt l0)) ∧ Below w.heap.size w w' := by
  have HR0 := AsZ.mk hr0
  have HT := AsZ.mk hT
  clear hr0 hT
  refine (callsIn_wide (n := 3)).1 ?_
  refine callsIn_of_wp_marks Tryd.func21 rfl trivial ?_ rfl
  simp only [Tryd.ntmps21, List.size_toArray, List.length_cons, List.length_nil, Nat.reduceAdd, Nat.reduceSub, Array.replicate_succ, Array.replicate_zero, List.push_toArray, List.append_toArray, List.nil_append, List.cons_append]
  refine wpIn_wide.2 ?_
  have K3 := bAl (blk_new w (.cells (agC .u64 65 f) 27 (0, 0))) (.cells #[.slice none 0 0] 40 (0, 0))
  have K5 := blk_new (w.alloc (.cells (agC .u64 65 f) 27 (0, 0))) (.cells #[.slice none 0 0] 40 (0, 0))
  rw [alloc_size] at K5
  have HB := aBl (aBl (Below.refl w.heap.size w) (.cells (agC .u64 65 f) 27 (0, 0))) (.cells #[.slice none 0 0] 40 (0, 0))
  replace K3 := AsZ.mk K3
  replace K5 := AsZ.mk K5
  replace HB := AsZ.mk HB
  go_wp2_with (fail)
  refine (of_calls A0 c0 l0 _ (Kd.C_below HR0.out HB.out) hc0).mono ?_
  rintro e w2 ⟨rfl, hb⟩
  dsimp only
  rw [show l0.foldl withF zeroF = ofF l0 from rfl]
  have K3' := AsZ.mk (bBl K3.out hb)
  have K5' := AsZ.mk (bBl K5.out hb)
  have HB' := AsZ.mk (tBl HB.out hb)
  clear K3 K5 HB hb
  have hgt : w.heap.size + 1 < w2.heap.size := bLt K5'.out
  go_wp2_with (fail)
  refine (all_calls (ofF l0) _).mono ?_
  rintro e w' ⟨rfl, rfl⟩
  have bM : Holds w2.heap.size (ofF l0) (w2.alloc (.cells (agC .u64 65 (ofF l0)) 27 (0, 0))) := blk_new w2 _
  go_wp2_with (fail)
  rename_i K hKK
  have hUf := of_U l0
  have hal := all_len (ofF l0)
  have hTb : TabW (w2.alloc (.cells (agC .u64 65 (ofF l0)) 27 (0, 0))) := HT.out.step (tBl HB'.out (aBl (Below.refl _ _) _))
  refine (wpIn_wide (n := 3)).1 ?_
  refine wpIn_rangeFunc_ownG rfl (by omega) (gf := 43) (lb := #[.pointer (some ⟨w2.heap.size, 0, none⟩)]) rfl trivial (enters_of Tryd.func43 (by kernel_rfl) rfl)
    (all_stops (3 - 1) (by omega) w2.heap.size (w.heap.size + 1) (ofF l0) hUf _ (by omega) bM hTb) belowK_t (belowK_b (by simp; omega)) (Below.refl _ _) (fun _ => rfl)
    (fun pre W => (∃ v, Boxed W (w.heap.size + 1) 40 v ∧ Kd.R k50 50 W (w.heap.size + 1) (fun _ => True) v (splitAll (hasF f) pre)) ∧ Below (w.heap.size + 1) w2 W)
    (fun _ _ _ => False)
    (OwnFrom.and (Own.from (boxRow_own (w.heap.size + 1) (w.heap.size + 1) 40 50 (fun pre : List Int => splitAll (hasF f) pre)) _) (ownFrom_below (by omega) (by simp; omega)))
    (fun _ _ _ _ _ hs _ _ => hs)
    ⟨⟨_, Boxed.alloc (show Boxed w2 (w.heap.size + 1) 40 _ from K5'.out) _, Kd.R_nil _ _ _ _ _⟩, (aBl (Below.refl w2.heap.size w2) _).mono (by omega)⟩
    (fun x => { tmps := #[.slice A0 l0.length c0, .agg (agC .u64 65 f), undef, .pointer (some ⟨w.heap.size, 0, none⟩), .slice none 0 0, .pointer (some ⟨w.heap.size + 1, 0, none⟩), .int .i64 x, undef, undef, .slice A0 l0.length c0, .agg (agC .u64 65 (ofF l0)), .func (.func 43) #[] #[.pointer (some ⟨w2.heap.size, 0, none⟩)], .int .i64 x, undef, undef, undef, undef, undef, undef, undef, undef, undef, undef, undef, undef, undef, undef, undef, undef, undef, undef, undef, undef, undef, undef, undef, undef, undef, undef, undef, undef, undef, undef, undef, undef, undef, undef, undef, undef, undef, undef, undef, undef, undef, undef, undef, undef, undef], defers := [] }) ?assign ?body ?done ?stop
  case assign =>
    intro l x W K hK
    gi_wp2
    exact hK
  case body =>
    rintro l pre x W ⟨⟨v, hv, hR⟩, hB⟩ hlt
    have L3 := ldMap_run ((hB.block w.heap.size (Nat.lt_succ_self _)).trans K3'.out)
    have hxl : (splitAll (hasF f) pre).length ≤ 4160 := by have := splitAll_len (hasF f) pre; omega
    have hws := hB.size
    have hst := splitAll_snoc (hasF f) pre x
    generalize splitAll (hasF f) pre = xs at hR hxl hst
    have HH := has_calls f x
    unfold splitStep at hst
    obtain ⟨b, hb⟩ : ∃ b, hasF f x = b := ⟨_, rfl⟩
    rw [hb] at HH hst
    replace hst := AsZ.mk hst
    clear hb hlt hal bM hTb hKK
    replace hB := AsZ.mk hB
    replace hR := AsZ.mk hR
    replace hv := AsZ.mk hv
    replace HH := AsZ.mk HH
    obtain ⟨i0, hi, hz0, hz1, hz2⟩ := info_parts info_run
    replace hi := AsZ.mk hi
    replace hz0 := AsZ.mk hz0
    replace hz1 := AsZ.mk hz1
    replace hz2 := AsZ.mk hz2
    obtain ⟨A5, c5, rfl⟩ := Kd.R_slice hR.out
    obtain ⟨y1, hy1⟩ : ∃ y1, wrap64 (x + 1) = y1 := ⟨_, rfl⟩
    rw [hy1] at hst
    have hy2 : IntKind.i64.wrap (x + 1) = y1 := (i64_w _).trans hy1
    clear hy1
    by_cases c0 : 0 < xs.length
    · have d0 : decide ((xs.length : Int) > 0) = true := decide_eq_true (by omega)
      have d0' : decide (0 < xs.length) = true := decide_eq_true c0
      obtain ⟨g, cap, eg, hbg, hlg, cells, hcell⟩ := Kd.R_form hR.out c0
      cases eg
      replace hbg := AsZ.mk hbg
      replace hlg := AsZ.mk hlg
      replace hcell := AsZ.mk hcell
      obtain ⟨ji, hji⟩ : ∃ ji : Int, (xs.length : Int) - 1 = ji := ⟨_, rfl⟩
      rw [hji] at hst
      have p : 0 ≤ ji := by omega
      have q : ji < (xs.length : Int) := by omega
      have hw1 : IntKind.i64.wrap ((xs.length : Int) - 1) = ji := by rw [hji]; exact Go.IntWalk.i64_in _ ⟨by omega, by omega⟩
      replace hji := AsZ.mk hji
      obtain ⟨t, ht⟩ : ∃ t, rd_T50 xs ji = t := ⟨_, rfl⟩
      rw [ht] at hst
      have hht := ht
      unfold rd_T50 at hht
      replace ht := AsZ.mk ht
      replace hht := AsZ.mk hht
      by_cases e1 : t.f1 = x
      · have d1 : (t.f1 == x) = true := by simp [e1]
        by_cases e2 : t.f2 = b
        · have d2 : (t.f2 == b) = true := by simp [e2]
          have hst := AsZ.mk (hst.out.trans (if_pos ⟨c0, e1, e2⟩))
          obtain ⟨y3, hy3⟩ : ∃ y3, wrap64 (t.f1 + 1) = y3 := ⟨_, rfl⟩
          rw [hy3] at hst
          have hy4 : IntKind.i64.wrap (t.f1 + 1) = y3 := (i64_w _).trans hy3
          clear hy3
          replace e1 := AsZ.mk e1
          replace e2 := AsZ.mk e2
          gi_wp2_with ((refine ⟨trivial, ?_⟩; gi_at_call 17; refine (CallsIn.inRound l (callsIn_wide.2 (HH.out _))).mono ?_; rintro e w' ⟨rfl, hb⟩; have hc5 : w'.cell? ⟨w.heap.size + 1, 0, none⟩ = some (.slice (some ⟨g, 0, none⟩) xs.length c5) := (bCe (bBl hv.out hb) 0).trans rfl; have hb := AsZ.mk hb; obtain ⟨ce, hcl, hM, hcc, hfr⟩ := Kd.R_elem (Kd.R_below hR.out hb.out) z50 ji p q; rw [hht.out] at hM; obtain rfl := k50_openM hM; have hx1 : w'.cell? ⟨g, ji.toNat * 3 + 1, none⟩ = some (.int .i64 t.f1) := hcc 1 _ rfl; have hx2 : w'.cell? ⟨g, ji.toNat * 3 + 2, none⟩ = some (.bool t.f2) := hcc 2 _ rfl; have hf1 : w'.frozen? ⟨g, ji.toNat * 3 + 1, none⟩ = false := hfr 1; have HP := AsZ.mk (Kd.R_seg (Kd.R_below hR.out hb.out) ji p q (seg := [.int .i64 y3]) (j := 1) hcl hcc (show 2 ≤ 3 from by decide) (x' := ⟨t.f0, y3, t.f2⟩) (k50_mkM _ _ _ ⟨t.f0, y3, t.f2⟩) (fun _ hk => hk)).1; clear hcl hM hcc hfr))
          exact ⟨(keeps_of_below hb.out _).trans ((KeepsOthers.setCell _ _ _).from _), (hb.out.mono (by omega)).setCell (p := ⟨g, ji.toNat * 3 + 1, none⟩) hbg.out _, ⟨_, (Below.heap_setCell w' ⟨g, ji.toNat * 3 + 1, none⟩ _ (w.heap.size + 1) (blk_ne hcell.out hv.out (by decide)).symm).trans (bBl hv.out hb.out), by rw [hst.out]; exact HP.out⟩, (hB.out.trans (hb.out.mono (by omega))).setCell (p := ⟨g, ji.toNat * 3 + 1, none⟩) hbg.out _⟩
        · have d2 : (t.f2 == b) = false := by simp [e2]
          have hst := AsZ.mk (hst.out.trans (if_neg (fun h => e2 h.2.2)))
          replace e1 := AsZ.mk e1
          replace e2 := AsZ.mk e2
          gi_wp2_with (first | (refine ⟨trivial, ?_⟩; gi_at_call 17; refine (CallsIn.inRound l (callsIn_wide.2 (HH.out _))).mono ?_; rintro e w' ⟨rfl, hb⟩; have hc5 : w'.cell? ⟨w.heap.size + 1, 0, none⟩ = some (.slice (some ⟨g, 0, none⟩) xs.length c5) := (bCe (bBl hv.out hb) 0).trans rfl; have hb := AsZ.mk hb; obtain ⟨ce, hcl, hM, hcc, hfr⟩ := Kd.R_elem (Kd.R_below hR.out hb.out) z50 ji p q; rw [hht.out] at hM; obtain rfl := k50_openM hM; have hx1 : w'.cell? ⟨g, ji.toNat * 3 + 1, none⟩ = some (.int .i64 t.f1) := hcc 1 _ rfl; have hx2 : w'.cell? ⟨g, ji.toNat * 3 + 2, none⟩ = some (.bool t.f2) := hcc 2 _ rfl; have hf1 : w'.frozen? ⟨g, ji.toNat * 3 + 1, none⟩ = false := hfr 1; clear hcl hM hcc hfr; obtain ⟨h0, inner, hown, hr⟩ := Kd.R_below hR.out hb.out; replace h0 := AsZ.mk h0; replace hown := AsZ.mk hown; replace hr := AsZ.mk hr) | (gi_at_builtin; (refine wpListIn_append_own_at _ rfl _ _ 40 rfl (w.heap.size + 1) 50 i0 (.agg #[.int .i64 0, .int .i64 0, .bool false]) 3 24 Tryd.underlying40 hi.out hz0.out hz1.out hz2.out rfl (by decide) _ _ _ rfl (own_alloc_ hown.out _) ⟨w'.heap.size, 0, none⟩ 1 1 [.int .i64 x, .int .i64 y1, .bool b] rfl rfl (by simpa using World.news_of_block (cs := #[.int .i64 x, .int .i64 y1, .bool b]) (t := 50) (fr := (0, 0)) (heap_alloc_new w' _)) (by simp [Value.oneCell']) (by simp only [maxLen]; omega) (by omega) (by have := hb.out.size; simp; omega) ?_; intro v' w1 hown' hgrow _ hat; obtain ⟨g', cap', rfl⟩ := ownsRow_succ hown'; have hv' := bBl hv.out hb.out; obtain ⟨hv1, hv2, _, hk2, hb2⟩ := Boxed.appended hv' (by decide) hown.out (by have := hb.out.size; omega) (Nat.le_refl _) hown' hgrow; have hR1 := Kd.R_appended h0.out hr.out (k50_mkM w' (w.heap.size + 1) (fun _ => False) ⟨x, y1, b⟩) (fun _ h => h.elim) (fun _ _ => trivial) hown' (World.grownBy.trans (World.grownBy_alloc w' _ _) hgrow) (hat.imp id fun e => ⟨_, e, by simp⟩); have hR2 := AsZ.mk (Kd.R_set hR1 (show w1.heap[w.heap.size + 1]? = _ from hv1) (by decide) 0 (.slice (some ⟨g', 0, none⟩) (xs.length + 1) cap')); have hc1 := hv1.cell; have hf1 := hv1.frozen; replace hv2 := AsZ.mk hv2; replace hk2 := AsZ.mk hk2; replace hb2 := AsZ.mk hb2; clear hv1 hR1 hgrow hown' hv')))
          exact ⟨(keeps_of_below hb.out _).trans (hk2.out.from _), (hb.out.mono (by omega)).trans hb2.out, ⟨_, hv2.out, by rw [hst.out]; exact hR2.out⟩, (hB.out.trans (hb.out.mono (by omega))).trans hb2.out⟩
      · have d1 : (t.f1 == x) = false := by simp [e1]
        have hst := AsZ.mk (hst.out.trans (if_neg (fun h => e1 h.2.1)))
        replace e1 := AsZ.mk e1
        gi_wp2_with (first | (refine ⟨trivial, ?_⟩; gi_at_call 17; refine (CallsIn.inRound l (callsIn_wide.2 (HH.out _))).mono ?_; rintro e w' ⟨rfl, hb⟩; have hc5 : w'.cell? ⟨w.heap.size + 1, 0, none⟩ = some (.slice (some ⟨g, 0, none⟩) xs.length c5) := (bCe (bBl hv.out hb) 0).trans rfl; have hb := AsZ.mk hb; obtain ⟨ce, hcl, hM, hcc, hfr⟩ := Kd.R_elem (Kd.R_below hR.out hb.out) z50 ji p q; rw [hht.out] at hM; obtain rfl := k50_openM hM; have hx1 : w'.cell? ⟨g, ji.toNat * 3 + 1, none⟩ = some (.int .i64 t.f1) := hcc 1 _ rfl; have hx2 : w'.cell? ⟨g, ji.toNat * 3 + 2, none⟩ = some (.bool t.f2) := hcc 2 _ rfl; have hf1 : w'.frozen? ⟨g, ji.toNat * 3 + 1, none⟩ = false := hfr 1; clear hcl hM hcc hfr; obtain ⟨h0, inner, hown, hr⟩ := Kd.R_below hR.out hb.out; replace h0 := AsZ.mk h0; replace hown := AsZ.mk hown; replace hr := AsZ.mk hr) | (gi_at_builtin; (refine wpListIn_append_own_at _ rfl _ _ 40 rfl (w.heap.size + 1) 50 i0 (.agg #[.int .i64 0, .int .i64 0, .bool false]) 3 24 Tryd.underlying40 hi.out hz0.out hz1.out hz2.out rfl (by decide) _ _ _ rfl (own_alloc_ hown.out _) ⟨w'.heap.size, 0, none⟩ 1 1 [.int .i64 x, .int .i64 y1, .bool b] rfl rfl (by simpa using World.news_of_block (cs := #[.int .i64 x, .int .i64 y1, .bool b]) (t := 50) (fr := (0, 0)) (heap_alloc_new w' _)) (by simp [Value.oneCell']) (by simp only [maxLen]; omega) (by omega) (by have := hb.out.size; simp; omega) ?_; intro v' w1 hown' hgrow _ hat; obtain ⟨g', cap', rfl⟩ := ownsRow_succ hown'; have hv' := bBl hv.out hb.out; obtain ⟨hv1, hv2, _, hk2, hb2⟩ := Boxed.appended hv' (by decide) hown.out (by have := hb.out.size; omega) (Nat.le_refl _) hown' hgrow; have hR1 := Kd.R_appended h0.out hr.out (k50_mkM w' (w.heap.size + 1) (fun _ => False) ⟨x, y1, b⟩) (fun _ h => h.elim) (fun _ _ => trivial) hown' (World.grownBy.trans (World.grownBy_alloc w' _ _) hgrow) (hat.imp id fun e => ⟨_, e, by simp⟩); have hR2 := AsZ.mk (Kd.R_set hR1 (show w1.heap[w.heap.size + 1]? = _ from hv1) (by decide) 0 (.slice (some ⟨g', 0, none⟩) (xs.length + 1) cap')); have hc1 := hv1.cell; have hf1 := hv1.frozen; replace hv2 := AsZ.mk hv2; replace hk2 := AsZ.mk hk2; replace hb2 := AsZ.mk hb2; clear hv1 hR1 hgrow hown' hv')))
        exact ⟨(keeps_of_below hb.out _).trans (hk2.out.from _), (hb.out.mono (by omega)).trans hb2.out, ⟨_, hv2.out, by rw [hst.out]; exact hR2.out⟩, (hB.out.trans (hb.out.mono (by omega))).trans hb2.out⟩
    · have d0 : decide ((xs.length : Int) > 0) = false := decide_eq_false (by omega)
      have d0' : decide (0 < xs.length) = false := decide_eq_false c0
      have hst := AsZ.mk (hst.out.trans (if_neg (fun h => c0 h.1)))
      gi_wp2_with (first | (refine ⟨trivial, ?_⟩; gi_at_call 17; refine (CallsIn.inRound l (callsIn_wide.2 (HH.out _))).mono ?_; rintro e w' ⟨rfl, hb⟩; have hc5 : w'.cell? ⟨w.heap.size + 1, 0, none⟩ = some (.slice A5 xs.length c5) := (bCe (bBl hv.out hb) 0).trans rfl; have hb := AsZ.mk hb; obtain ⟨h0, inner, hown, hr⟩ := Kd.R_below hR.out hb.out; replace h0 := AsZ.mk h0; replace hown := AsZ.mk hown; replace hr := AsZ.mk hr) | (gi_at_builtin; (refine wpListIn_append_own_at _ rfl _ _ 40 rfl (w.heap.size + 1) 50 i0 (.agg #[.int .i64 0, .int .i64 0, .bool false]) 3 24 Tryd.underlying40 hi.out hz0.out hz1.out hz2.out rfl (by decide) _ _ _ rfl (own_alloc_ hown.out _) ⟨w'.heap.size, 0, none⟩ 1 1 [.int .i64 x, .int .i64 y1, .bool b] rfl rfl (by simpa using World.news_of_block (cs := #[.int .i64 x, .int .i64 y1, .bool b]) (t := 50) (fr := (0, 0)) (heap_alloc_new w' _)) (by simp [Value.oneCell']) (by simp only [maxLen]; omega) (by omega) (by have := hb.out.size; simp; omega) ?_; intro v' w1 hown' hgrow _ hat; obtain ⟨g', cap', rfl⟩ := ownsRow_succ hown'; have hv' := bBl hv.out hb.out; obtain ⟨hv1, hv2, _, hk2, hb2⟩ := Boxed.appended hv' (by decide) hown.out (by have := hb.out.size; omega) (Nat.le_refl _) hown' hgrow; have hR1 := Kd.R_appended h0.out hr.out (k50_mkM w' (w.heap.size + 1) (fun _ => False) ⟨x, y1, b⟩) (fun _ h => h.elim) (fun _ _ => trivial) hown' (World.grownBy.trans (World.grownBy_alloc w' _ _) hgrow) (hat.imp id fun e => ⟨_, e, by simp⟩); have hR2 := AsZ.mk (Kd.R_set hR1 (show w1.heap[w.heap.size + 1]? = _ from hv1) (by decide) 0 (.slice (some ⟨g', 0, none⟩) (xs.length + 1) cap')); have hc1 := hv1.cell; have hf1 := hv1.frozen; replace hv2 := AsZ.mk hv2; replace hk2 := AsZ.mk hk2; replace hb2 := AsZ.mk hb2; clear hv1 hR1 hgrow hown' hv')))
      exact ⟨(keeps_of_below hb.out _).trans (hk2.out.from _), (hb.out.mono (by omega)).trans hb2.out, ⟨_, hv2.out, by rw [hst.out]; exact hR2.out⟩, (hB.out.trans (hb.out.mono (by omega))).trans hb2.out⟩
  case done =>
    rintro D ys W hD rfl ⟨⟨v, hv, hR⟩, hB⟩ hK
    rw [all_of] at hR
    refine hKK _ _ ?_
    have hc := hv.cell
    go_wp2_with (fail)
    refine ⟨by simp, .inl ⟨_, _, rfl, run_takeDeferred hK, ?_⟩⟩
    have hR' := row_kept hR (grownBy_putObj' W D (.deferred none)) (fun r e => by cases e; exact ⟨_, hK, rfl⟩)
    exact ⟨_, results_tmp rfl _ _ _, v, rfl, Kd.R_lower hR' (Nat.le_succ _), (HB'.out.trans (hB.mono (Nat.le_succ _))).trans (belowK_b (w := w) (Nat.le_refl _) W D _ _ (by simp at hD; omega) hK rfl rfl)⟩
  case stop =>
    rintro D c pre W _ _ h _
    exact h.elim
end Go.Proofs.YtcnlmpjoghogbaaDoor.Ag
namespace Go.Proofs.YtcnlmpjoghogbaaDoor.PAll
open Go.RowKit Go.Proofs.YtcnlmpjoghogbaaDoor.Xw Go.Proofs.YtcnlmpjoghogbaaDoorW.PrintWords Go.Proofs.YtcnlmpjoghogbaaDoorW.PrintLast Go.Proofs.YtcnlmpjoghogbaaDoorW.PrintMore
attribute [local go_sem] max2_int min2_int max_two min_two max_three min_three max_four min_four   -- for this text's walks alone
set_option linter.unusedVariables false
set_option linter.unusedSimpArgs false
theorem eqA50 (d : Nat) (w : World) (x0 y0 : Int) (x1 y1 : Int) (x2 y2 : Bool) :
    (Op.equalIn (d + 2) 50 (.agg #[.int .i64 x0, .int .i64 x1, .bool x2]) (.agg #[.int .i64 y0, .int .i64 y1, .bool y2])).run Tryd.prog w = .ok (x0 == y0 && (x1 == y1 && (x2 == y2))) w := by
  refine eqA_of Tryd.underlying50 (by kernel_rfl) ?_
  refine eqf_cons (by rfl) (by go_simp; rfl) (by go_simp; rfl) (by go_simp) ?_
  refine eqf_cons (by rfl) (by go_simp; rfl) (by go_simp; rfl) (by go_simp) ?_
  exact eqf_last (by rfl) (by go_simp; rfl) (by go_simp; rfl) (by go_simp)
end Go.Proofs.YtcnlmpjoghogbaaDoor.PAll
namespace Go.Proofs.YtcnlmpjoghogbaaDoor.PAll
open Go.Proofs.YtcnlmpjoghogbaaDoor.Ag (row_load row_store ag_gate ag_gate_st row_store2)
open Go.RowKit Go.Proofs.YtcnlmpjoghogbaaDoor.Xw Go.Proofs.YtcnlmpjoghogbaaDoorW.PrintWords Go.Proofs.YtcnlmpjoghogbaaDoorW.PrintLast Go.Proofs.YtcnlmpjoghogbaaDoorW.PrintMore
attribute [local go_sem] max2_int min2_int max_two min_two max_three min_three max_four min_four   -- for this text's walks alone
attribute [local go_sem ↓] Ag.ldMap_eq
set_option linter.unusedVariables false
set_option linter.unusedSimpArgs false
attribute [local go_sem high] eqA50
mutual
def spenceref24_Sorted.l0 : Nat → List Int → List Int → Int → Option (List Int)
  | 0, _, _, _ => none
  | k + 1, x0, x3, x4 => if x4 ≤ 4096 then (spenceref24_Sorted.j1 k x0 x3 x4 (decide ((x3.length : Int) < (x0.length : Int)))) else (spenceref24_Sorted.j1 k x0 x3 x4 false)
def spenceref24_Sorted.j1 : Nat → List Int → List Int → Int → Bool → Option (List Int)
  | 0, _, _, _, _ => none
  | k + 1, x0, x3, x4, x13 => if x13 = true then ((spenceref01_In.f k x0 x4).bind fun t131 => (if t131 = true then (if x3.length < 17592186044416 then (spenceref24_Sorted.l0 k x0 (x3 ++ [x4]) (wrap64 (x4 + 1))) else (none)) else (spenceref24_Sorted.l0 k x0 x3 (wrap64 (x4 + 1))))) else (some x3)
end
def spenceref24_Sorted.f (k : Nat) (l0 : List Int) : Option (List Int) := spenceref24_Sorted.l0 k l0 ([] : List Int) 0
theorem spenceref24_Sorted.mono_l : ∀ k, (∀ y0 y1 y2, LeO (spenceref24_Sorted.l0 k y0 y1 y2) (spenceref24_Sorted.l0 (k + 1) y0 y1 y2)) ∧ (∀ y0 y1 y2 y3, LeO (spenceref24_Sorted.j1 k y0 y1 y2 y3) (spenceref24_Sorted.j1 (k + 1) y0 y1 y2 y3))
  | 0 => ⟨fun _ _ _ r h => by simp [spenceref24_Sorted.l0] at h, fun _ _ _ _ r h => by simp [spenceref24_Sorted.j1] at h⟩
  | k + 1 => by
    obtain ⟨ih0, ih1⟩ := spenceref24_Sorted.mono_l k
    refine ⟨?_, ?_⟩
    · intro y0 y1 y2
      unfold spenceref24_Sorted.l0
      repeat' first
      | (with_reducible exact ih0 _ _ _)
      | (with_reducible exact ih1 _ _ _ _)
      | (with_reducible exact spenceref01_In.mono _ _ _)
      | (with_reducible exact LeO.refl _)
      | (with_reducible exact LeO.none _)
      | (with_reducible refine LeO.ite ?_ ?_)
      | (with_reducible refine LeO.bind ?_ (fun _ => ?_))
      | exact ih0 _ _ _
      | exact ih1 _ _ _ _
      | exact spenceref01_In.mono _ _ _
      | exact LeO.none _
      | refine LeO.ite ?_ ?_
      | refine LeO.bind ?_ (fun _ => ?_)
    · intro y0 y1 y2 y3
      unfold spenceref24_Sorted.j1
      repeat' first
      | (with_reducible exact ih0 _ _ _)
      | (with_reducible exact ih1 _ _ _ _)
      | (with_reducible exact spenceref01_In.mono _ _ _)
      | (with_reducible exact LeO.refl _)
      | (with_reducible exact LeO.none _)
      | (with_reducible refine LeO.ite ?_ ?_)
      | (with_reducible refine LeO.bind ?_ (fun _ => ?_))
      | exact ih0 _ _ _
      | exact ih1 _ _ _ _
      | exact spenceref01_In.mono _ _ _
      | exact LeO.none _
      | refine LeO.ite ?_ ?_
      | refine LeO.bind ?_ (fun _ => ?_)
theorem spenceref24_Sorted.mono : ∀ a0 k, LeO (spenceref24_Sorted.f k a0) (spenceref24_Sorted.f (k + 1) a0) := by
  intro a0 k
  obtain ⟨ih0, ih1⟩ := spenceref24_Sorted.mono_l k
  unfold spenceref24_Sorted.f
  repeat' first
      | (with_reducible exact ih0 _ _ _)
      | (with_reducible exact ih1 _ _ _ _)
      | (with_reducible exact spenceref01_In.mono _ _ _)
      | (with_reducible exact LeO.refl _)
      | (with_reducible exact LeO.none _)
      | (with_reducible refine LeO.ite ?_ ?_)
      | (with_reducible refine LeO.bind ?_ (fun _ => ?_))
      | exact ih0 _ _ _
      | exact ih1 _ _ _ _
      | exact spenceref01_In.mono _ _ _
      | exact LeO.none _
      | refine LeO.ite ?_ ?_
      | refine LeO.bind ?_ (fun _ => ?_)
set_option maxHeartbeats 8000000 in
set_option maxRecDepth 100000 in
theorem spenceref24_Sorted.calls (k : Nat) (A0 : Option Addr) (c0 : Nat) (l0 : List Int) (r : List Int) (w : World) (hr0 : Kd.C (Kd.int .i64) w A0 l0.length l0) (hc0 : l0.length ≤ c0) (h : spenceref24_Sorted.f k l0 = some r) :
    Calls Tryd.prog 11 #[.slice A0 l0.length c0] w fun e w' => ∃ v0_ : Value, e = .returned (v0_) ∧ Kd.R (Kd.int .i64) 3 w' w.heap.size (fun _ => True) v0_ r ∧ Below w.heap.size w w' := by
  have HR0 := AsZ.mk hr0
  have HC0 := AsZ.mk hc0
  clear hr0 hc0
  have HB := AsZ.mk (Below.refl w.heap.size w)
  have H : (spenceref24_Sorted.l0 k l0 ([] : List Int) 0) = some r := h
  clear h
  have H' := AsZ.mk H
  clear H
  go_enter Tryd.func11, Tryd.ntmps11
  go_wp2
  go_loopg [3, 4] k (fun kq v3 v4 w' => ∃ (x3_1 : List Int) (x4_1 : Int), v4 = .int .i64 x4_1 ∧ AsZ (spenceref24_Sorted.l0 kq l0 x3_1 x4_1 = some r) ∧ AsZ (kq ≤ k) ∧ AsZ (Kd.R (Kd.int .i64) 3 w' w.heap.size (fun _ => True) v3 x3_1) ∧ AsZ (Below w.heap.size w w'))
  case atStart => exact ⟨(([] : List Int)), (0), (by first | rfl | (simp; done) | (simp [*]; done)), H', ⟨Nat.le_refl _⟩, ⟨by first | exact Kd.R_nil _ _ _ _ _ | exact Kd.N_nil _ _ _ _ _ | exact Kd.V_nil _ _ _ _ _ | exact Kd.Q_nil _ _ _ _ _ | exact Kd.S_nil _ _ _ _ _⟩, ⟨by repeat (first | (with_reducible first | exact HB.out | apply aBl | apply pBd | apply dBl) | exact HB.out)⟩⟩
  case round =>
    clear H'
    try clear c1
    obtain ⟨x3_1, x4_1, rfl, HA, HK1, HO_3, HB⟩ := hrel
    cases gk with
    | zero => exact absurd HA.out (by simp [spenceref24_Sorted.l0])
    | succ k1 =>
      have H := HA.out
      clear HA
      simp only [spenceref24_Sorted.l0] at H
      have HC2 := AsZ.mk H
      clear H
      go_upto_region 3 with (fail)
      go_cut [13] (fun v13 wc => ∃ (kq : Nat) (x13_1 : Bool), v13 = .bool x13_1 ∧ AsZ (spenceref24_Sorted.j1 kq l0 x3_1 x4_1 x13_1 = some r) ∧ AsZ (kq ≤ k1) ∧ AsZ (Kd.R (Kd.int .i64) 3 wc w.heap.size (fun _ => True) u3 x3_1) ∧ AsZ (Below w.heap.size w wc))
      case first =>
        have H := HC2.out
        clear HC2
        by_cases c3 : x4_1 ≤ 4096
        · rw [if_pos c3] at H
          have c3b0 : decide (x4_1 ≤ 4096) = true := decide_eq_true c3
          clear c3
          (first | rw [c3b0] | (simp only [i64_w, i32_w]; rw [c3b0]) | skip)
          have H' := AsZ.mk H
          clear H
          obtain ⟨Ao4, co4, eo4⟩ := Kd.R_slice HO_3.out
          subst eo4
          go_wp2
          go_meet
          case rel => exact ⟨_, (decide ((x3_1.length : Int) < (l0.length : Int))), (by first | rfl | (simp; done) | (simp [*]; done)), H', ⟨by have := HK1.out; first | omega | exact Nat.le_refl _⟩, ⟨by (with_reducible repeat (first | apply Kd.R_alloc | apply Kd.R_drewN | apply Kd.R_drew)); exact HO_3.out⟩, ⟨by repeat (first | (with_reducible first | exact HB.out | apply aBl | apply pBd | apply dBl) | exact HB.out)⟩⟩
        · rw [if_neg c3] at H
          have c3b0 : decide (x4_1 ≤ 4096) = false := decide_eq_false c3
          clear c3
          (first | rw [c3b0] | (simp only [i64_w, i32_w]; rw [c3b0]) | skip)
          have H' := AsZ.mk H
          clear H
          go_wp2
          go_meet
          case rel => exact ⟨_, (false), (by first | rfl | (simp; done) | (simp [*]; done)), H', ⟨by have := HK1.out; first | omega | exact Nat.le_refl _⟩, ⟨by (with_reducible repeat (first | apply Kd.R_alloc | apply Kd.R_drewN | apply Kd.R_drew)); exact HO_3.out⟩, ⟨by repeat (first | (with_reducible first | exact HB.out | apply aBl | apply pBd | apply dBl) | exact HB.out)⟩⟩
      case rest =>
        clear HC2
        try clear c1
        try clear p2
        try clear c3
        try clear c3b0
        obtain ⟨kq, x13_1, rfl, HA, HJ1, HO_3, HB⟩ := hcut
        cases kq with
        | zero => exact absurd HA.out (by simp [spenceref24_Sorted.j1])
        | succ kj1 =>
          have H := HA.out
          clear HA
          simp only [spenceref24_Sorted.j1] at H
          by_cases c5 : x13_1 = true
          · subst c5
            have H1 : ((spenceref01_In.f kj1 l0 x4_1).bind fun t131 => (if t131 = true then (if x3_1.length < 17592186044416 then (spenceref24_Sorted.l0 kj1 l0 (x3_1 ++ [x4_1]) (wrap64 (x4_1 + 1))) else (none)) else (spenceref24_Sorted.l0 kj1 l0 x3_1 (wrap64 (x4_1 + 1))))) = some r := by rw [if_pos rfl] at H; exact H
            clear H
            have H := H1
            clear H1
            replace H := Option.bind_eq_some_iff.mp H
            obtain ⟨t131, A60, H⟩ := H
            replace H : (if t131 = true then (if x3_1.length < 17592186044416 then (spenceref24_Sorted.l0 kj1 l0 (x3_1 ++ [x4_1]) (wrap64 (x4_1 + 1))) else (none)) else (spenceref24_Sorted.l0 kj1 l0 x3_1 (wrap64 (x4_1 + 1)))) = some r := H
            have A6 := AsZ.mk A60
            clear A60
            by_cases c7 : t131 = true
            · subst c7
              have H1 : (if x3_1.length < 17592186044416 then (spenceref24_Sorted.l0 kj1 l0 (x3_1 ++ [x4_1]) (wrap64 (x4_1 + 1))) else (none)) = some r := by rw [if_pos rfl] at H; exact H
              clear H
              have H := H1
              clear H1
              by_cases c8 : x3_1.length < 17592186044416
              · rw [if_pos c8] at H
                have LMc8 := AsZ.mk c8
                clear c8
                obtain ⟨y132, hy132⟩ : ∃ y_ : List Int, y_ = (x3_1 ++ [x4_1]) := ⟨_, rfl⟩
                replace H : (spenceref24_Sorted.l0 kj1 l0 y132 (wrap64 (x4_1 + 1))) = some r := by first | (rw [hy132]; with_reducible exact H) | (have H2_ := (Option.bind_some _ _).symm.trans H; rw [hy132]; with_reducible exact H2_) | (have H2_ := (Option.bind_some _ _).symm.trans H; with_reducible exact H2_) | with_reducible exact H | (rw [hy132]; exact H) | exact H
                have Ny132 := AsZ.mk hy132
                clear hy132
                have H' := AsZ.mk H
                clear H
                go_wp2_with (first | ((with_reducible refine gCa (f := 13) rfl ?_); refine gLl (some 18) rfl rfl Tryd.func13 (by kernel_rfl) rfl #[.slice A0 l0.length c0, .int .i64 x4_1] rfl (by (try simp only [List.map_toArray, List.map_cons, List.map_nil]); first | done | rfl | (simp only [List.length_drop, List.length_take]; rfl)) ?_; (with_reducible refine (spenceref01_In.calls kj1 _ _ l0 x4_1 true _ ?side1 ?side2 A6.out).mono ?_); (case side1 => repeat (first | exact (Kd.C_below HR0.out HB.out) | (with_reducible refine Kd.C_alloc ?_ _) | (with_reducible refine Kd.C_drewN ?_ _) | (with_reducible refine Kd.C_drew ?_))); (case side2 => exact HC0.out); rintro e w' ⟨rfl, ⟨nd, rfl⟩⟩; refine ⟨_, rfl, ?_⟩) | ((with_reducible refine gate_builtin (b := .append) (xs := #[.tmp 19, .tmp 21]) rfl ?_); (try (refine gate_guard (by rfl) ?_; dsimp only)); at_builtin; refine Kd.R_append (Kd.int .i64) (w0 := w) w.heap.size rfl (.tmp 19) (.tmp 21) 22 3 (.int .i64 0) 8 rfl Tryd.underlying22 info3 rfl (by decide) (by omega) u3 x3_1 x4_1 [.int .i64 x4_1] (fun _ => True) (fun _ => False) rfl rfl ?aP (fun _ hk => hk.elim) ?aF ?aO ?aB ?aS ?aL ?_; (case aP => exact rfl); (case aB => exact (by repeat (first | (with_reducible first | exact HB.out | apply aBl | apply pBd | apply dBl) | exact HB.out))); (case aF => exact (fun _ _ => trivial)); (case aO => exact (by (with_reducible repeat (first | apply Kd.R_alloc | apply Kd.R_drewN | apply Kd.R_drew)); exact HO_3.out)); (case aS => exact (zBl (by repeat (first | (with_reducible first | exact HB.out | apply aBl | apply pBd | apply dBl) | exact HB.out)))); (case aL => have := LMc8.out; omega); intro v133 w9 ho hb hg hat; rw [← Ny132.out] at ho; have n0_ := AsZ.mk (hb); have n1_ := AsZ.mk (ho); clear HB; clear HO_3; have HB := n0_; have HO134 := n1_; clear n0_ n1_; clear ho hb hg hat))
                go_roundg kj1
                case measure => have := HK1.out; have := HJ1.out; omega
                case rel => exact ⟨(y132), (wrap64 (x4_1 + 1)), (by first | rfl | (simp; done) | (simp [*]; done)), H', ⟨by have := HK1.out; have := HJ1.out; omega⟩, ⟨by (with_reducible repeat (first | apply Kd.R_alloc | apply Kd.R_drewN | apply Kd.R_drew)); exact HO134.out⟩, ⟨by repeat (first | (with_reducible first | exact HB.out | apply aBl | apply pBd | apply dBl) | exact HB.out)⟩⟩
              · rw [if_neg c8] at H
                exact absurd H (by simp)
            · replace c7 := Bool.eq_false_iff.mpr c7
              subst c7
              have H1 : (spenceref24_Sorted.l0 kj1 l0 x3_1 (wrap64 (x4_1 + 1))) = some r := by rw [if_neg (show ¬ (false = true) by decide)] at H; exact H
              clear H
              have H := H1
              clear H1
              have H' := AsZ.mk H
              clear H
              go_wp2_with (first | ((with_reducible refine gCa (f := 13) rfl ?_); refine gLl (some 18) rfl rfl Tryd.func13 (by kernel_rfl) rfl #[.slice A0 l0.length c0, .int .i64 x4_1] rfl (by (try simp only [List.map_toArray, List.map_cons, List.map_nil]); first | done | rfl | (simp only [List.length_drop, List.length_take]; rfl)) ?_; (with_reducible refine (spenceref01_In.calls kj1 _ _ l0 x4_1 false _ ?side1 ?side2 A6.out).mono ?_); (case side1 => repeat (first | exact (Kd.C_below HR0.out HB.out) | (with_reducible refine Kd.C_alloc ?_ _) | (with_reducible refine Kd.C_drewN ?_ _) | (with_reducible refine Kd.C_drew ?_))); (case side2 => exact HC0.out); rintro e w' ⟨rfl, ⟨nd, rfl⟩⟩; refine ⟨_, rfl, ?_⟩))
              go_roundg kj1
              case measure => have := HK1.out; have := HJ1.out; omega
              case rel => exact ⟨(x3_1), (wrap64 (x4_1 + 1)), (by first | rfl | (simp; done) | (simp [*]; done)), H', ⟨by have := HK1.out; have := HJ1.out; omega⟩, ⟨by (with_reducible repeat (first | apply Kd.R_alloc | apply Kd.R_drewN | apply Kd.R_drew)); exact HO_3.out⟩, ⟨by repeat (first | (with_reducible first | exact HB.out | apply aBl | apply pBd | apply dBl) | exact HB.out)⟩⟩
          · replace c5 := Bool.eq_false_iff.mpr c5
            subst c5
            have H1 : (some x3_1) = some r := by rw [if_neg (show ¬ (false = true) by decide)] at H; exact H
            clear H
            have H := H1
            clear H1
            obtain rfl := Option.some.inj H
            go_wp2
            go_ret
            exact ⟨_, by first | rfl | (simp [eWn, eWs] <;> rfl) | (simp [*, eWn, eWs] <;> rfl), by (with_reducible repeat (first | apply Kd.R_alloc | apply Kd.R_drewN | apply Kd.R_drew)); exact HO_3.out, by repeat (first | (with_reducible first | exact HB.out | apply aBl | apply pBd | apply dBl) | exact HB.out)⟩
def spenceref01_Ints.l0 : Nat → List Int → List Int → Int → Int → Option (Bool)
  | 0, _, _, _, _ => none
  | k + 1, x0, x1, x12, x13 => if x13 < x12 then (if 0 ≤ x13 then (if x13 < (x0.length : Int) then (if x13 < (x1.length : Int) then (if (rd x0 x13) = (rd x1 x13) then (spenceref01_Ints.l0 k x0 x1 x12 (wrap64 (x13 + 1))) else (some false)) else (none)) else (none)) else (none)) else (some true)
def spenceref01_Ints.f (k : Nat) (l0 : List Int) (l1 : List Int) : Option (Bool) := if (l0.length : Int) = (l1.length : Int) then (spenceref01_Ints.l0 k l0 l1 (l0.length : Int) 0) else (some false)
theorem spenceref01_Ints.mono_l : ∀ k, (∀ y0 y1 y2 y3, LeO (spenceref01_Ints.l0 k y0 y1 y2 y3) (spenceref01_Ints.l0 (k + 1) y0 y1 y2 y3))
  | 0 => fun _ _ _ _ r h => by simp [spenceref01_Ints.l0] at h
  | k + 1 => by
    have ih0 := spenceref01_Ints.mono_l k
    · intro y0 y1 y2 y3
      unfold spenceref01_Ints.l0
      repeat' first
      | (with_reducible exact ih0 _ _ _ _)
      | (with_reducible exact LeO.refl _)
      | (with_reducible exact LeO.none _)
      | (with_reducible refine LeO.ite ?_ ?_)
      | (with_reducible refine LeO.bind ?_ (fun _ => ?_))
      | exact ih0 _ _ _ _
      | exact LeO.none _
      | refine LeO.ite ?_ ?_
      | refine LeO.bind ?_ (fun _ => ?_)
theorem spenceref01_Ints.mono : ∀ a0 a1 k, LeO (spenceref01_Ints.f k a0 a1) (spenceref01_Ints.f (k + 1) a0 a1) := by
  intro a0 a1 k
  have ih0 := spenceref01_Ints.mono_l k
  unfold spenceref01_Ints.f
  repeat' first
      | (with_reducible exact ih0 _ _ _ _)
      | (with_reducible exact LeO.refl _)
      | (with_reducible exact LeO.none _)
      | (with_reducible refine LeO.ite ?_ ?_)
      | (with_reducible refine LeO.bind ?_ (fun _ => ?_))
      | exact ih0 _ _ _ _
      | exact LeO.none _
      | refine LeO.ite ?_ ?_
      | refine LeO.bind ?_ (fun _ => ?_)
set_option maxHeartbeats 8000000 in
set_option maxRecDepth 100000 in
theorem spenceref01_Ints.calls (k : Nat) (A0 : Option Addr) (c0 : Nat) (l0 : List Int) (A1 : Option Addr) (c1 : Nat) (l1 : List Int) (r : Bool) (w : World) (hr0 : Kd.C (Kd.int .i64) w A0 l0.length l0) (hc0 : l0.length ≤ c0) (hr1 : Kd.C (Kd.int .i64) w A1 l1.length l1) (hc1 : l1.length ≤ c1) (h : spenceref01_Ints.f k l0 l1 = some r) :
    Calls Tryd.prog 14 #[.slice A0 l0.length c0, .slice A1 l1.length c1] w fun e w' => e = .returned (.bool r) ∧ Drawn0 w w' := by
  have HR0 := AsZ.mk hr0
  have HC0 := AsZ.mk hc0
  clear hr0 hc0
  have HR1 := AsZ.mk hr1
  have HC1 := AsZ.mk hc1
  clear hr1 hc1
  have H : (if (l0.length : Int) = (l1.length : Int) then (spenceref01_Ints.l0 k l0 l1 (l0.length : Int) 0) else (some false)) = some r := h
  clear h
  by_cases c3 : (l0.length : Int) = (l1.length : Int)
  · rw [if_pos c3] at H
    have c3b0 : ((l0.length : Int) == (l1.length : Int)) = true := beq_iff_eq.mpr c3
    have c3b1 : ((l0.length : Int) != (l1.length : Int)) = false := bne_eq_false_iff_eq.mpr c3
    have c3b2 : (l0.length == l1.length) = true := by first | simpa using c3 | (simp at c3 ⊢; omega)
    clear c3
    have H' := AsZ.mk H
    clear H
    go_enter Tryd.func14, Tryd.ntmps14
    go_wp2
    repeat (go_quiet (fail); try go_wp2)
    go_loopg [13] k (fun kq v13 w' => ∃ (x13_1 : Int), v13 = .int .i64 x13_1 ∧ AsZ (spenceref01_Ints.l0 kq l0 l1 (l0.length : Int) x13_1 = some r) ∧ AsZ (kq ≤ k) ∧ Drawn0 w w')
    case atStart => exact ⟨(0), (by first | rfl | (simp; done) | (simp [*]; done)), H', ⟨Nat.le_refl _⟩, by repeat (first | exact Drawn0.refl _ | apply Drawn0.step)⟩
    case round =>
      clear H'
      try clear c1
      try clear p2
      try clear c3
      try clear c3b0
      try clear c3b1
      try clear c3b2
      obtain ⟨x13_1, rfl, HA, HK1, ⟨m1, rfl⟩⟩ := hrel
      cases gk with
      | zero => exact absurd HA.out (by simp [spenceref01_Ints.l0])
      | succ k1 =>
        have H := HA.out
        clear HA
        simp only [spenceref01_Ints.l0] at H
        by_cases c4 : x13_1 < (l0.length : Int)
        · rw [if_pos c4] at H
          have c4b0 : decide (x13_1 < (l0.length : Int)) = true := decide_eq_true c4
          clear c4
          by_cases c5 : 0 ≤ x13_1
          · rw [if_pos c5] at H
            have c5b0 : decide (0 ≤ x13_1) = true := decide_eq_true c5
            clear c5
            by_cases c6 : x13_1 < (l0.length : Int)
            · rw [if_pos c6] at H
              have c6b0 : decide (x13_1 < (l0.length : Int)) = true := decide_eq_true c6
              clear c6
              by_cases c7 : x13_1 < (l1.length : Int)
              · rw [if_pos c7] at H
                have c7b0 : decide (x13_1 < (l1.length : Int)) = true := decide_eq_true c7
                clear c7
                by_cases c8 : (rd l0 x13_1) = (rd l1 x13_1)
                · rw [if_pos c8] at H
                  have c8b0 : ((rd l0 x13_1) == (rd l1 x13_1)) = true := beq_iff_eq.mpr c8
                  have c8b1 : ((rd l0 x13_1) != (rd l1 x13_1)) = false := bne_eq_false_iff_eq.mpr c8
                  clear c8
                  have H' := AsZ.mk H
                  clear H
                  have p136 : 0 ≤ (x13_1 : Int) := of_decide_eq_true (by first | (with_reducible assumption) | assumption)
                  have q136 : x13_1 < (l0.length : Int) := of_decide_eq_true (by first | (with_reducible assumption) | assumption)
                  obtain ⟨ad136, e136, hx136_0⟩ := Kd.at_int HR0.out x13_1 p136 q136
                  cases e136
                  replace p136 := eq_true p136
                  replace q136 := eq_true q136
                  have p137 : 0 ≤ (x13_1 : Int) := of_decide_eq_true (by first | (with_reducible assumption) | assumption)
                  have q137 : x13_1 < (l1.length : Int) := of_decide_eq_true (by first | (with_reducible assumption) | assumption)
                  obtain ⟨ad137, e137, hx137_0⟩ := Kd.at_int HR1.out x13_1 p137 q137
                  cases e137
                  replace p137 := eq_true p137
                  replace q137 := eq_true q137
                  go_wp2
                  repeat (go_quiet (fail); try go_wp2)
                  go_roundg k1
                  case measure => have := HK1.out; omega
                  case rel => exact ⟨(wrap64 (x13_1 + 1)), (by first | rfl | (simp; done) | (simp [*]; done)), H', ⟨by have := HK1.out; omega⟩, by repeat (first | exact Drawn0.refl _ | apply Drawn0.step)⟩
                · rw [if_neg c8] at H
                  have c8b0 : ((rd l0 x13_1) == (rd l1 x13_1)) = false := beq_eq_false_iff_ne.mpr c8
                  have c8b1 : ((rd l0 x13_1) != (rd l1 x13_1)) = true := bne_iff_ne.mpr c8
                  obtain rfl := Option.some.inj H
                  have p136 : 0 ≤ (x13_1 : Int) := of_decide_eq_true (by first | (with_reducible assumption) | assumption)
                  have q136 : x13_1 < (l0.length : Int) := of_decide_eq_true (by first | (with_reducible assumption) | assumption)
                  obtain ⟨ad136, e136, hx136_0⟩ := Kd.at_int HR0.out x13_1 p136 q136
                  cases e136
                  replace p136 := eq_true p136
                  replace q136 := eq_true q136
                  have p137 : 0 ≤ (x13_1 : Int) := of_decide_eq_true (by first | (with_reducible assumption) | assumption)
                  have q137 : x13_1 < (l1.length : Int) := of_decide_eq_true (by first | (with_reducible assumption) | assumption)
                  obtain ⟨ad137, e137, hx137_0⟩ := Kd.at_int HR1.out x13_1 p137 q137
                  cases e137
                  replace p137 := eq_true p137
                  replace q137 := eq_true q137
                  go_wp2
                  repeat (go_quiet (fail); try go_wp2)
                  go_ret
                  exact ⟨by first | rfl | (simp; done) | (simp [*]; done) | exact nEm _ | exact eEm _, by repeat (first | exact Drawn0.refl _ | apply Drawn0.step)⟩
              · rw [if_neg c7] at H
                exact absurd H (by simp)
            · rw [if_neg c6] at H
              exact absurd H (by simp)
          · rw [if_neg c5] at H
            exact absurd H (by simp)
        · rw [if_neg c4] at H
          have c4b0 : decide (x13_1 < (l0.length : Int)) = false := decide_eq_false c4
          clear c4
          obtain rfl := Option.some.inj H
          go_wp2
          repeat (go_quiet (fail); try go_wp2)
          go_ret
          exact ⟨by first | rfl | (simp; done) | (simp [*]; done) | exact nEm _ | exact eEm _, by repeat (first | exact Drawn0.refl _ | apply Drawn0.step)⟩
  · rw [if_neg c3] at H
    have c3b0 : ((l0.length : Int) == (l1.length : Int)) = false := beq_eq_false_iff_ne.mpr c3
    have c3b1 : ((l0.length : Int) != (l1.length : Int)) = true := bne_iff_ne.mpr c3
    have c3b2 : (l0.length == l1.length) = false := by first | simpa using c3 | (simp at c3 ⊢; omega)
    obtain rfl := Option.some.inj H
    go_enter Tryd.func14, Tryd.ntmps14
    go_wp2
    repeat (go_quiet (fail); try go_wp2)
    go_ret
    exact ⟨by first | rfl | (simp; done) | (simp [*]; done) | exact nEm _ | exact eEm _, by repeat (first | exact Drawn0.refl _ | apply Drawn0.step)⟩
def bits_OnesCount64.f (a0 : Int) : Option (Int) := some (Go.bits .and .i64 (wrap64 (IntKind.u64.wrap ((IntKind.u64.wrap ((IntKind.u64.wrap ((Go.bits .and .u64 (IntKind.u64.wrap (((IntKind.u64.wrap ((Go.bits .and .u64 ((IntKind.u64.wrap ((Go.bits .and .u64 (a0 / 2) 6148914691236517205) + (Go.bits .and .u64 a0 6148914691236517205))) / 4) 3689348814741910323) + (Go.bits .and .u64 (IntKind.u64.wrap ((Go.bits .and .u64 (a0 / 2) 6148914691236517205) + (Go.bits .and .u64 a0 6148914691236517205))) 3689348814741910323))) / 16) + (IntKind.u64.wrap ((Go.bits .and .u64 ((IntKind.u64.wrap ((Go.bits .and .u64 (a0 / 2) 6148914691236517205) + (Go.bits .and .u64 a0 6148914691236517205))) / 4) 3689348814741910323) + (Go.bits .and .u64 (IntKind.u64.wrap ((Go.bits .and .u64 (a0 / 2) 6148914691236517205) + (Go.bits .and .u64 a0 6148914691236517205))) 3689348814741910323))))) 1085102592571150095) + ((Go.bits .and .u64 (IntKind.u64.wrap (((IntKind.u64.wrap ((Go.bits .and .u64 ((IntKind.u64.wrap ((Go.bits .and .u64 (a0 / 2) 6148914691236517205) + (Go.bits .and .u64 a0 6148914691236517205))) / 4) 3689348814741910323) + (Go.bits .and .u64 (IntKind.u64.wrap ((Go.bits .and .u64 (a0 / 2) 6148914691236517205) + (Go.bits .and .u64 a0 6148914691236517205))) 3689348814741910323))) / 16) + (IntKind.u64.wrap ((Go.bits .and .u64 ((IntKind.u64.wrap ((Go.bits .and .u64 (a0 / 2) 6148914691236517205) + (Go.bits .and .u64 a0 6148914691236517205))) / 4) 3689348814741910323) + (Go.bits .and .u64 (IntKind.u64.wrap ((Go.bits .and .u64 (a0 / 2) 6148914691236517205) + (Go.bits .and .u64 a0 6148914691236517205))) 3689348814741910323))))) 1085102592571150095) / 256))) + ((IntKind.u64.wrap ((Go.bits .and .u64 (IntKind.u64.wrap (((IntKind.u64.wrap ((Go.bits .and .u64 ((IntKind.u64.wrap ((Go.bits .and .u64 (a0 / 2) 6148914691236517205) + (Go.bits .and .u64 a0 6148914691236517205))) / 4) 3689348814741910323) + (Go.bits .and .u64 (IntKind.u64.wrap ((Go.bits .and .u64 (a0 / 2) 6148914691236517205) + (Go.bits .and .u64 a0 6148914691236517205))) 3689348814741910323))) / 16) + (IntKind.u64.wrap ((Go.bits .and .u64 ((IntKind.u64.wrap ((Go.bits .and .u64 (a0 / 2) 6148914691236517205) + (Go.bits .and .u64 a0 6148914691236517205))) / 4) 3689348814741910323) + (Go.bits .and .u64 (IntKind.u64.wrap ((Go.bits .and .u64 (a0 / 2) 6148914691236517205) + (Go.bits .and .u64 a0 6148914691236517205))) 3689348814741910323))))) 1085102592571150095) + ((Go.bits .and .u64 (IntKind.u64.wrap (((IntKind.u64.wrap ((Go.bits .and .u64 ((IntKind.u64.wrap ((Go.bits .and .u64 (a0 / 2) 6148914691236517205) + (Go.bits .and .u64 a0 6148914691236517205))) / 4) 3689348814741910323) + (Go.bits .and .u64 (IntKind.u64.wrap ((Go.bits .and .u64 (a0 / 2) 6148914691236517205) + (Go.bits .and .u64 a0 6148914691236517205))) 3689348814741910323))) / 16) + (IntKind.u64.wrap ((Go.bits .and .u64 ((IntKind.u64.wrap ((Go.bits .and .u64 (a0 / 2) 6148914691236517205) + (Go.bits .and .u64 a0 6148914691236517205))) / 4) 3689348814741910323) + (Go.bits .and .u64 (IntKind.u64.wrap ((Go.bits .and .u64 (a0 / 2) 6148914691236517205) + (Go.bits .and .u64 a0 6148914691236517205))) 3689348814741910323))))) 1085102592571150095) / 256))) / 65536))) + ((IntKind.u64.wrap ((IntKind.u64.wrap ((Go.bits .and .u64 (IntKind.u64.wrap (((IntKind.u64.wrap ((Go.bits .and .u64 ((IntKind.u64.wrap ((Go.bits .and .u64 (a0 / 2) 6148914691236517205) + (Go.bits .and .u64 a0 6148914691236517205))) / 4) 3689348814741910323) + (Go.bits .and .u64 (IntKind.u64.wrap ((Go.bits .and .u64 (a0 / 2) 6148914691236517205) + (Go.bits .and .u64 a0 6148914691236517205))) 3689348814741910323))) / 16) + (IntKind.u64.wrap ((Go.bits .and .u64 ((IntKind.u64.wrap ((Go.bits .and .u64 (a0 / 2) 6148914691236517205) + (Go.bits .and .u64 a0 6148914691236517205))) / 4) 3689348814741910323) + (Go.bits .and .u64 (IntKind.u64.wrap ((Go.bits .and .u64 (a0 / 2) 6148914691236517205) + (Go.bits .and .u64 a0 6148914691236517205))) 3689348814741910323))))) 1085102592571150095) + ((Go.bits .and .u64 (IntKind.u64.wrap (((IntKind.u64.wrap ((Go.bits .and .u64 ((IntKind.u64.wrap ((Go.bits .and .u64 (a0 / 2) 6148914691236517205) + (Go.bits .and .u64 a0 6148914691236517205))) / 4) 3689348814741910323) + (Go.bits .and .u64 (IntKind.u64.wrap ((Go.bits .and .u64 (a0 / 2) 6148914691236517205) + (Go.bits .and .u64 a0 6148914691236517205))) 3689348814741910323))) / 16) + (IntKind.u64.wrap ((Go.bits .and .u64 ((IntKind.u64.wrap ((Go.bits .and .u64 (a0 / 2) 6148914691236517205) + (Go.bits .and .u64 a0 6148914691236517205))) / 4) 3689348814741910323) + (Go.bits .and .u64 (IntKind.u64.wrap ((Go.bits .and .u64 (a0 / 2) 6148914691236517205) + (Go.bits .and .u64 a0 6148914691236517205))) 3689348814741910323))))) 1085102592571150095) / 256))) + ((IntKind.u64.wrap ((Go.bits .and .u64 (IntKind.u64.wrap (((IntKind.u64.wrap ((Go.bits .and .u64 ((IntKind.u64.wrap ((Go.bits .and .u64 (a0 / 2) 6148914691236517205) + (Go.bits .and .u64 a0 6148914691236517205))) / 4) 3689348814741910323) + (Go.bits .and .u64 (IntKind.u64.wrap ((Go.bits .and .u64 (a0 / 2) 6148914691236517205) + (Go.bits .and .u64 a0 6148914691236517205))) 3689348814741910323))) / 16) + (IntKind.u64.wrap ((Go.bits .and .u64 ((IntKind.u64.wrap ((Go.bits .and .u64 (a0 / 2) 6148914691236517205) + (Go.bits .and .u64 a0 6148914691236517205))) / 4) 3689348814741910323) + (Go.bits .and .u64 (IntKind.u64.wrap ((Go.bits .and .u64 (a0 / 2) 6148914691236517205) + (Go.bits .and .u64 a0 6148914691236517205))) 3689348814741910323))))) 1085102592571150095) + ((Go.bits .and .u64 (IntKind.u64.wrap (((IntKind.u64.wrap ((Go.bits .and .u64 ((IntKind.u64.wrap ((Go.bits .and .u64 (a0 / 2) 6148914691236517205) + (Go.bits .and .u64 a0 6148914691236517205))) / 4) 3689348814741910323) + (Go.bits .and .u64 (IntKind.u64.wrap ((Go.bits .and .u64 (a0 / 2) 6148914691236517205) + (Go.bits .and .u64 a0 6148914691236517205))) 3689348814741910323))) / 16) + (IntKind.u64.wrap ((Go.bits .and .u64 ((IntKind.u64.wrap ((Go.bits .and .u64 (a0 / 2) 6148914691236517205) + (Go.bits .and .u64 a0 6148914691236517205))) / 4) 3689348814741910323) + (Go.bits .and .u64 (IntKind.u64.wrap ((Go.bits .and .u64 (a0 / 2) 6148914691236517205) + (Go.bits .and .u64 a0 6148914691236517205))) 3689348814741910323))))) 1085102592571150095) / 256))) / 65536))) / 4294967296)))) 127)
def spencelaw18_BitmapTells.f (l0 : List Int) (a1 : Int) (a2 : Int) : Option (Bool) := some true
def runs_Split.f (l0 : List Int) (a1_0 : Nat → Int) : Option (List S50) := some (Ag.splitAll (Ag.hasF a1_0) (Ag.srt l0))
theorem runs_Split.calls (A0 : Option Addr) (c0 : Nat) (l0 : List Int) (a1_0 : Nat → Int) (r : List S50) (w : World) (hr0 : Kd.C (Kd.int .i64) w A0 l0.length l0) (hc0 : l0.length ≤ c0) (hT_ : Ag.TabW w) (h : runs_Split.f l0 a1_0 = some r) :
    Calls Tryd.prog 21 #[.slice A0 l0.length c0, .agg (Ag.agC .u64 65 a1_0)] w fun e w' => ∃ v0_ : Value, e = .returned (v0_) ∧ Kd.R k50 50 w' w.heap.size (fun _ => True) v0_ r ∧ Below w.heap.size w w' := by
  obtain rfl := Option.some.inj h
  exact Ag.split_calls A0 c0 l0 a1_0 w hr0 hc0 hT_
def spencelaw27_awake.f  : Option (Bool) := (bitmap_Of.f (([1] : List Int))).bind fun t149 => ((runs_Split.f (([0, 1, 2, 5] : List Int)) t149).bind fun t150 => (if (t150.length : Int) = 4 then (if 1 < (t150.length : Int) then (some (((rd_T50 t150 1).f0) == 1 && (((rd_T50 t150 1).f1) == 2 && (((rd_T50 t150 1).f2))))) else (none)) else (some false)))
end Go.Proofs.YtcnlmpjoghogbaaDoor.PAll
namespace Go.Proofs.YtcnlmpjoghogbaaDoor.Ag
open Go Go.RowKit Go.Shelf Go.Proofs Go.Proofs.YtcnlmpjoghogbaaDoor.Xw Go.Proofs.YtcnlmpjoghogbaaDoor.PAll Go.Proofs.YtcnlmpjoghogbaaDoorW.PrintWords Go.Proofs.YtcnlmpjoghogbaaDoorW.PrintLast Go.Proofs.YtcnlmpjoghogbaaDoorW.PrintMore
attribute [local go_sem] Oper.semAt_some
theorem pred_calls (r : S50) (w : World) : Calls Tryd.prog 49 #[.agg #[.int .i64 r.f0, .int .i64 r.f1, .bool r.f2]] w fun e w' => e = .returned (.bool r.f2) ∧ Below w.heap.size w w' := by
  go_enter Tryd.func49, Tryd.ntmps49
  go_wp2
  go_ret
  exact ⟨rfl, aBl (Below.refl _ _) _⟩
theorem pred_enters (args : Array Value) (w : World) : (callFunc 49 args).run Tryd.prog w = .ok (.enter 49 args) w := enters_of Tryd.func49 (by kernel_rfl) rfl args w
/-- The first that is there; -1. -/
def idxR (l : List S50) : Int := if l.all (fun r => !r.f2) then -1 else (l.findIdx (fun r => r.f2) : Nat)
theorem idxR_miss {l : List S50} (h : ∀ (j : Nat) (r : S50), l[j]? = some r → r.f2 = false) : idxR l = -1 := by
  unfold idxR
  rw [if_pos]
  rw [List.all_eq_true]
  intro r hr
  obtain ⟨j, hj⟩ := List.getElem?_of_mem hr
  simp [h j r hj]
theorem idxR_hit {l : List S50} {k : Nat} {r : S50} (hk : l[k]? = some r) (hr : r.f2 = true) (h : ∀ (j : Nat) (r : S50), j < k → l[j]? = some r → r.f2 = false) : idxR l = k := by
  obtain ⟨hlt, he⟩ := List.getElem?_eq_some_iff.1 hk
  unfold idxR
  rw [if_neg]
  · congr 1
    rw [List.findIdx_eq hlt]
    refine ⟨by rw [he]; exact hr, fun j hj => ?_⟩
    exact h j _ hj (List.getElem?_eq_getElem (by omega))
  · rw [List.all_eq_true]
    intro hh
    have := hh r (List.mem_of_getElem? hk)
    simp [hr] at this
theorem idx_calls (A : Option Addr) (c : Nat) (l : List S50) (w : World) (hC : Kd.C k50 w A l.length l) :
    Calls Tryd.prog 63 #[.slice A l.length c, .func (.func 49) #[] #[]] w fun e w' => e = .returned (.int .i64 (idxR l)) ∧ Below w.heap.size w w' := by
  have hu50 := Tryd.underlying50
  have HC := AsZ.mk hC
  have hnb := hC.2.1
  clear hC
  obtain ⟨n, hn⟩ : ∃ n, l.length = n := ⟨_, rfl⟩
  rw [hn] at hnb ⊢
  replace hn := AsZ.mk hn
  go_enter Tryd.func63, Tryd.ntmps63
  go_wp2
  go_loopg [5, 8] n (fun gg _ s8 wr => ∃ kk : Nat, kk ≤ n ∧ n - kk ≤ gg ∧ s8 = .int .i64 kk ∧ AsZ (Below w.heap.size w wr) ∧ AsZ (∀ (j : Nat) (r : S50), j < kk → l[j]? = some r → r.f2 = false))
  case atStart => exact ⟨0, Nat.zero_le _, by omega, rfl, ⟨Below.refl _ w⟩, ⟨fun j r hj => absurd hj (Nat.not_lt_zero _)⟩⟩
  case round =>
    obtain ⟨kk, hkk, hg, rfl, BW, HA⟩ := hrel
    by_cases hlt : kk < n
    · have hltz : (kk : Int) < (n : Int) := by omega
      obtain ⟨ad, eA, hx0, hx1, hx2⟩ := at_T50 HC.out (kk : Int) (by omega) (by have := hn.out; omega)
      cases eA
      replace hx0 := (BW.out.cell (World.block_lt_of_cell? w _ hx0)).trans hx0
      replace hx1 := (BW.out.cell (World.block_lt_of_cell? w _ hx1)).trans hx1
      replace hx2 := (BW.out.cell (World.block_lt_of_cell? w _ hx2)).trans hx2
      simp only [Int.toNat_natCast] at hx0 hx1 hx2
      obtain ⟨r, hr⟩ : ∃ r, rd_T50 l (kk : Int) = r := ⟨_, rfl⟩
      rw [hr] at hx0 hx1 hx2
      have hlk : l[kk]? = some r := by
        rw [← hr]
        unfold rd_T50
        simp only [Int.toNat_natCast, List.getD_eq_getElem?_getD]
        rw [List.getElem?_eq_getElem (by have := hn.out; omega)]
        rfl
      replace hlk := AsZ.mk hlk
      clear hr
      have hcall := pred_calls r wr
      have eg := pred_enters
      cases hq : r.f2 with
      | true =>
        rw [hq] at hcall hx2
        go_wp2_with (go_at_fn 49; refine hcall.mono ?_; rintro e w' ⟨rfl, hb'⟩)
        go_ret
        refine ⟨?_, tBl BW.out hb'⟩
        rw [idxR_hit hlk.out hq HA.out]
        rfl
      | false =>
        rw [hq] at hcall hx2
        go_wp2_with (go_at_fn 49; refine hcall.mono ?_; rintro e w' ⟨rfl, hb'⟩)
        go_roundg (n - (kk + 1))
        case measure => omega
        case rel =>
          refine ⟨kk + 1, by omega, by omega, by go_num, ⟨tBl BW.out hb'⟩, ⟨fun j r' hj hj' => ?_⟩⟩
          by_cases e : j = kk
          · subst e
            rw [hlk.out] at hj'
            cases hj'
            exact hq
          · exact HA.out j r' (by omega) hj'
    · have hltz : ¬ (kk : Int) < (n : Int) := by omega
      have : kk = n := by omega
      subst this
      go_wp2
      go_ret
      refine ⟨?_, BW.out⟩
      rw [idxR_miss (fun j r hj => HA.out j r (by have := (List.getElem?_eq_some_iff.1 hj).1; have := hn.out; omega) hj)]
      rfl
/-- slices.Clone. -/
theorem clone_calls (A : Option Addr) (c : Nat) (l : List S50) (w : World) (hC : Kd.C k50 w A l.length l) (hc : l.length ≤ c) (hb : l.length ≤ 1000000) :
    Calls Tryd.prog 48 #[.slice A l.length c] w fun e w' => ∃ v, e = .returned v ∧ Kd.R k50 50 w' w.heap.size (fun _ => True) v l ∧ Below w.heap.size w w' := by
  have q22 : ∀ (w : World) (a : Option Addr) (n c n' c' : Nat), (binOp .eql 40 (.slice a n c) (.slice none n' c')).run Tryd.prog w = .ok (.bool a.isNone) w := fun w a n c n' c' => Lib.run_eql_slice_nil w _ _ a n c n' c' Tryd.underlying40
  have HC := AsZ.mk hC
  clear hC
  cases A with
  | none =>
    have h0 : l = [] := by
      cases l with
      | nil => rfl
      | cons x r => obtain ⟨ad, he, _⟩ := HC.out.2.2 (by simp); cases he
    subst h0
    go_enter Tryd.func48, Tryd.ntmps48
    go_wp2
    go_ret
    exact ⟨_, rfl, Kd.R_nil _ _ _ _ _, by first | exact Below.refl _ _ | exact below_drew (Below.refl _ _)⟩
  | some ad =>
    go_enter Tryd.func48, Tryd.ntmps48
    go_wp2_with (at_builtin; (refine Kd.R_append_rows k50 (w0 := w) w.heap.size rfl (.tmp 5) (.tmp 6) 40 50 (.agg #[.int .i64 0, .int .i64 0, .bool false]) 24 rfl Tryd.underlying40 info50 rfl (by decide) (by decide) (.slice (some ⟨w.heap.size, 0, none⟩) 0 0) [] l (some ad) l.length c (fun _ => True) (fun _ => False) rfl rfl ⟨fun _ _ => trivial, [], World.ownsRow_made w #[] 0 (Nat.le_refl _) (Nat.zero_le _) (by simp), Reps.none _ _⟩ (Kd.C_below HC.out (aBl (Below.refl _ _) _)) (fun x cs h => by rw [k50_open h]; exact k50_mkM _ _ _ x) (fun _ h => h.elim) (fun _ _ => trivial) (aBl (Below.refl _ _) _) (by simp) (by simp; omega) ?_; intro v1 w1 hR hb1 _ _; rw [List.nil_append] at hR; replace hR := AsZ.mk hR; replace hb1 := AsZ.mk hb1))
    go_ret
    exact ⟨_, rfl, hR.out, hb1.out⟩
theorem idx_cases (l : List S50) : (∀ (j : Nat) (r : S50), l[j]? = some r → r.f2 = false) ∨ ∃ k r, l[k]? = some r ∧ r.f2 = true ∧ ∀ (j : Nat) (r : S50), j < k → l[j]? = some r → r.f2 = false := by
  induction l with
  | nil => exact .inl fun j r h => by simp at h
  | cons x l ih =>
    cases hx : x.f2 with
    | true => exact .inr ⟨0, x, rfl, hx, fun j r hj => absurd hj (Nat.not_lt_zero _)⟩
    | false =>
      rcases ih with h | ⟨k, r, hk, hr, h⟩
      · refine .inl fun j r hj => ?_
        cases j with
        | zero => simp only [List.getElem?_cons_zero, Option.some.injEq] at hj; subst hj; exact hx
        | succ j => exact h j r (by simpa using hj)
      · refine .inr ⟨k + 1, r, by simpa using hk, hr, fun j r' hj hj' => ?_⟩
        cases j with
        | zero => simp only [List.getElem?_cons_zero, Option.some.injEq] at hj'; subst hj'; exact hx
        | succ j => exact h j r' (by omega) (by simpa using hj')
theorem filter_all {l : List S50} (h : ∀ (j : Nat) (r : S50), l[j]? = some r → r.f2 = false) : l.filter (fun r => !r.f2) = l := by
  rw [List.filter_eq_self]
  intro r hr
  obtain ⟨j, hj⟩ := List.getElem?_of_mem hr
  simp [h j r hj]
theorem setCells_cat (g : Nat) : ∀ (a b : List Value) (o : Nat) (w : World), w.setCells g o (a ++ b) = (w.setCells g o a).setCells g (o + a.length) b
  | [], _, _, _ => rfl
  | v :: a, b, o, w => by
    show (w.setCell ⟨g, o, none⟩ v).setCells g (o + 1) (a ++ b) = ((w.setCell ⟨g, o, none⟩ v).setCells g (o + 1) a).setCells g (o + (a.length + 1)) b
    rw [setCells_cat g a b]
    congr 1
    omega
/-- Zero values, k structs. -/
def zsR (k : Nat) : List Value := (Builtin.zeroCells #[.int .i64 0, .int .i64 0, .bool false] k).toList
theorem zsR_succ (k : Nat) : zsR (k + 1) = zsR k ++ [.int .i64 0, .int .i64 0, .bool false] := by
  unfold zsR Builtin.zeroCells
  simp only [List.size_toArray, List.length_cons, List.length_nil, Nat.zero_add, Nat.reduceAdd, Array.toList_map, Array.toList_range]
  rw [show (k + 1) * 3 = k * 3 + 1 + 1 + 1 by omega, List.range_succ, List.range_succ, List.range_succ]
  simp only [List.append_assoc, List.map_append, List.map_cons, List.map_nil]
  rw [show k * 3 % 3 = 0 by omega, show (k * 3 + 1) % 3 = 1 by omega, show (k * 3 + 1 + 1) % 3 = 2 by omega]
  rfl
theorem zsR_len (k : Nat) : (zsR k).length = k * 3 := by simp [zsR, Builtin.zeroCells]
theorem row_clear {W : World} {base g n cap : Nat} {m : List S50} (h : Kd.R k50 50 W base (fun _ => True) (.slice (some ⟨g, 0, none⟩) n cap) m) (i : Nat) (k : Nat) : i + k ≤ n →
    ∃ m', Kd.R k50 50 (W.setCells g (i * 3) (zsR k)) base (fun _ => True) (.slice (some ⟨g, 0, none⟩) n cap) m' ∧ m'.take i = m.take i ∧ W.grownBy (W.setCells g (i * 3) (zsR k)) (some g) := by
  induction k with
  | zero =>
    have e0 : zsR 0 = [] := by simp [zsR, Builtin.zeroCells]
    rw [e0]
    exact fun _ => ⟨m, h, rfl, rfl, rfl, rfl, Nat.le_refl _, fun _ _ _ => rfl⟩
  | succ k ih =>
    intro hk
    obtain ⟨m', h', ht, hg⟩ := ih (by omega)
    obtain ⟨ce, hcl, hM, hcc, hfr⟩ := Kd.R_elem h' z50 ((i + k : Nat) : Int) (by omega) (by omega)
    have hs := Kd.R_seg h' ((i + k : Nat) : Int) (by omega) (by omega) (seg := [.int .i64 0, .int .i64 0, .bool false]) (j := 0) hcl hcc (show 3 ≤ 3 from Nat.le_refl _) (x' := z50) (by
      rw [k50_openM hM]
      exact k50_mkM _ _ _ z50) (fun _ hk => hk)
    have e : W.setCells g (i * 3) (zsR (k + 1)) = (W.setCells g (i * 3) (zsR k)).setCells g ((((i + k : Nat) : Int)).toNat * k50.sz + 0) [.int .i64 0, .int .i64 0, .bool false] := by
      rw [zsR_succ, setCells_cat, zsR_len]
      congr 1
      show i * 3 + k * 3 = (i + k) * 3 + 0
      omega
    rw [e]
    refine ⟨_, hs.1, ?_, hg.trans hs.2⟩
    rw [List.take_set, ht]
    rw [List.set_eq_of_length_le]
    simp only [List.length_take, Int.toNat_natCast]
    omega
theorem clear_run (ty : TypeId) (w : World) (b o n c : Nat) (hn : 0 < n) (hc : ∀ j, j < n * 3 → (w.cell? ⟨b, o + j, none⟩).isSome = true) (hf : ∀ j, j < n * 3 → w.frozen? ⟨b, o + j, none⟩ = false) :
    (Builtin.clear_ #[40] ty #[.slice (some ⟨b, o, none⟩) n c]).run Tryd.prog w = .ok (.tuple #[]) (w.setCells b o (zsR n)) := by
  have hone : ∀ v ∈ zsR n, v.oneCell' = true := by
    clear hc hf hn
    induction n with
    | zero => intro v hv; simp [zsR, Builtin.zeroCells] at hv
    | succ n ih =>
      intro v hv
      rw [zsR_succ, List.mem_append] at hv
      rcases hv with hv | hv
      · exact ih v hv
      · simp only [List.mem_cons, List.not_mem_nil, or_false] at hv
        rcases hv with rfl | rfl | rfl <;> rfl
  have hst := run_storeCells_cells (P := Tryd.prog) b o (zsR n) 0 w (by simpa [zsR_len] using hc) (by simpa [zsR_len] using hf) hone
  simp only [Nat.add_zero] at hst
  obtain ⟨m, rfl⟩ : ∃ m, n = m + 1 := ⟨n - 1, by omega⟩
  have hzv : ∀ w, (zeroValue 50).run Tryd.prog w = .ok (.agg #[.int .i64 0, .int .i64 0, .bool false]) w := Tryd.zeroValue50
  simp only [zsR] at hst ⊢
  simp [Builtin.clear_, run_underlying Tryd.underlying40, hzv, Value.cells, hst]
set_option maxHeartbeats 4000000 in
set_option maxRecDepth 100000 in
theorem del_calls (A : Option Addr) (c : Nat) (l : List S50) (base : Nat) (w : World) (hR : Kd.R k50 50 w base (fun _ => True) (.slice A l.length c) l) (hbz : base ≤ w.heap.size) (hnb : l.length ≤ 1000000) :
    Calls Tryd.prog 47 #[.slice A l.length c, .func (.func 49) #[] #[]] w fun e w' => ∃ v, e = .returned v ∧ Kd.R k50 50 w' base (fun _ => True) v (l.filter (fun r => !r.f2)) ∧ Below base w w' := by
  have hC := (Kd.R_reads' hR).2.2
  have hcn := (Kd.R_reads' hR).2.1
  have hi := idx_calls A c l w hC
  rcases idx_cases l with hall | ⟨k0, r0, hk0, hr0, hmin⟩
  · rw [idxR_miss hall] at hi
    rw [filter_all hall]
    have HR := AsZ.mk hR
    have HI := AsZ.mk hi
    clear hR hi hC hall
    generalize hn : l.length = n at *
    replace hn := AsZ.mk hn
    go_enter Tryd.func47, Tryd.ntmps47
    go_wp2_with (go_at_call 63; refine HI.out.mono ?_; rintro e w' ⟨rfl, hb⟩)
    go_ret
    exact ⟨_, rfl, Kd.R_below HR.out hb, hb.mono hbz⟩
  · rw [idxR_hit hk0 hr0 hmin] at hi
    have hk0l : k0 < l.length := (List.getElem?_eq_some_iff.1 hk0).1
    obtain ⟨g, cap, eg0, hbg, hgl, _⟩ := Kd.R_form hR (by omega)
    cases eg0
    have hne1 : ((k0 : Int) == -1) = false := beq_eq_false_iff_ne.2 (by omega)
    have hst : (l.take (k0 + 1)).filter (fun r => !r.f2) = l.take k0 := by
      rw [List.take_add_one, List.filter_append, hk0]
      simp only [Option.toList, List.filter_cons, hr0, Bool.not_true, Bool.false_eq_true, if_false, List.filter_nil, List.append_nil]
      refine filter_all (fun j r hj => ?_)
      rw [List.getElem?_take] at hj
      split at hj
      · exact hmin j r (by omega) hj
      · cases hj
    have HR := AsZ.mk hR
    have HI := AsZ.mk hi
    replace hst := AsZ.mk hst
    clear hR hi hC hmin hk0 hr0
    obtain ⟨n, hn⟩ : ∃ n, l.length = n := ⟨_, rfl⟩
    rw [hn] at HR HI hcn hnb hk0l ⊢
    replace hn := AsZ.mk hn
    go_enter Tryd.func47, Tryd.ntmps47
    go_wp2_with (go_at_call 63; refine HI.out.mono ?_; rintro e w' ⟨rfl, hb⟩)
    go_loopg [5, 6, 7] n (fun gg s5 s6 _ wr => ∃ (i j : Nat) (m : List S50), s5 = .int .i64 i ∧ s6 = .int .i64 j ∧ j ≤ n ∧ n - j ≤ gg ∧ i < j ∧ AsZ (m.length = n) ∧ AsZ (m.take i = (l.take j).filter (fun r => !r.f2)) ∧ AsZ (m.drop j = l.drop j) ∧ AsZ (Kd.R k50 50 wr base (fun _ => True) (.slice (some ⟨g, 0, none⟩) n c) m) ∧ AsZ (Below base w wr))
    case atStart => exact ⟨k0, k0 + 1, l, rfl, by go_num, by omega, by omega, by omega, hn, ⟨hst.out.symm⟩, ⟨rfl⟩, ⟨Kd.R_below HR.out hb⟩, ⟨hb.mono hbz⟩⟩
    case round =>
      obtain ⟨i, j, m, rfl, rfl, hjn, hgg, hij, hm, htk, hdp, HRm, HBm⟩ := hrel
      clear HR HI hb
      by_cases hlt : j < n
      · have hltz : (j : Int) < (n : Int) := by omega
        obtain ⟨r, hr⟩ : ∃ r, rd_T50 m (j : Int) = r := ⟨_, rfl⟩
        have hmj : m[j]? = some r := by
          rw [← hr]
          unfold rd_T50
          simp only [Int.toNat_natCast, List.getD_eq_getElem?_getD]
          rw [List.getElem?_eq_getElem (by have := hm.out; omega)]
          rfl
        have hlj : l[j]? = some r := by
          have e := congrArg (fun x => x[0]?) hdp.out
          simp only [List.getElem?_drop, Nat.add_zero] at e
          rw [← e]; exact hmj
        replace hlj := AsZ.mk hlj
        unfold rd_T50 at hr
        obtain ⟨ce, hcl, hM, hcc, hfr⟩ := Kd.R_elem HRm.out z50 (j : Int) (by omega) (by omega)
        rw [hr] at hM
        obtain rfl := k50_openM hM
        have hx0 : wr.cell? ⟨g, j * 3, none⟩ = some (.int .i64 r.f0) := hcc 0 _ rfl
        have hx1 : wr.cell? ⟨g, j * 3 + 1, none⟩ = some (.int .i64 r.f1) := hcc 1 _ rfl
        have hx2 : wr.cell? ⟨g, j * 3 + 2, none⟩ = some (.bool r.f2) := hcc 2 _ rfl
        clear hcl hM hcc hfr hr hmj
        have hcall := pred_calls r
        have eg := pred_enters
        have hbw : ∀ {X : World} (cs : Array Value), Below (wr.alloc (.cells cs 50 (0, 0))).heap.size (wr.alloc (.cells cs 50 (0, 0))) X → Below wr.heap.size wr X := fun cs h => (aBl (Below.refl _ _) _).trans (h.mono (by simp))
        have hdp1 : m.drop (j + 1) = l.drop (j + 1) := by rw [← List.drop_drop, hdp.out, List.drop_drop]
        replace hdp1 := AsZ.mk hdp1
        cases hq : r.f2 with
        | true =>
          rw [hq] at hcall hx2
          have hfl : (l.take (j + 1)).filter (fun r => !r.f2) = (l.take j).filter (fun r => !r.f2) := by
            rw [List.take_add_one, hlj.out, List.filter_append]
            simp [hq]
          replace hfl := AsZ.mk hfl
          go_wp2_with (go_at_fn 49; refine (hcall _).mono ?_; rintro e w' ⟨rfl, hb'⟩; replace hb' := AsZ.mk (hbw _ hb'))
          go_roundg (n - (j + 1))
          case measure => omega
          case rel => exact ⟨i, j + 1, m, rfl, by go_num, by omega, by omega, by omega, hm, ⟨htk.out.trans hfl.out.symm⟩, hdp1, ⟨Kd.R_below HRm.out hb'.out⟩, ⟨HBm.out.trans (hb'.out.mono (by have := HBm.out.size; omega))⟩⟩
        | false =>
          rw [hq] at hcall hx2
          have hfl : (l.take (j + 1)).filter (fun r => !r.f2) = (l.take j).filter (fun r => !r.f2) ++ [r] := by
            rw [List.take_add_one, hlj.out, List.filter_append]
            simp [hq]
          have hrq : (⟨r.f0, r.f1, false⟩ : S50) = r := by rw [← hq]
          replace hrq := AsZ.mk hrq
          replace hfl := AsZ.mk hfl
          have hiz : (0 : Int) ≤ (i : Int) := by omega
          have hin : (i : Int) < (n : Int) := by omega
          obtain ⟨v0, hv0⟩ : ∃ v0, r.f0 = v0 := ⟨_, rfl⟩
          obtain ⟨v1, hv1⟩ : ∃ v1, r.f1 = v1 := ⟨_, rfl⟩
          rw [hv0] at hx0 hcall hrq
          rw [hv1] at hx1 hcall hrq
          clear hv0 hv1
          go_wp2_with (go_at_fn 49; (refine (hcall _).mono ?_; rintro e w' ⟨rfl, hb'⟩; have hbx := bBl (blk_new wr _) hb'; have hy0 : w'.cell? ⟨wr.heap.size, 0, none⟩ = some (.int .i64 v0) := (bCe hbx 0).trans rfl; have hy1 : w'.cell? ⟨wr.heap.size, 1, none⟩ = some (.int .i64 v1) := (bCe hbx 1).trans rfl; have hy2 : w'.cell? ⟨wr.heap.size, 2, none⟩ = some (.bool false) := (bCe hbx 2).trans rfl; clear hbx; replace hb' := AsZ.mk (hbw _ hb'); have HR' := AsZ.mk (Kd.R_below HRm.out hb'.out); obtain ⟨ce, hcl, hM, hcc, hfr⟩ := Kd.R_elem HR'.out z50 (i : Int) hiz hin; have hM' := k50_openM hM; have HP := AsZ.mk (Kd.R_seg HR'.out (i : Int) hiz hin (seg := [.int .i64 v0, .int .i64 v1, .bool false]) (j := 0) hcl hcc (show 3 ≤ 3 from Nat.le_refl _) (x' := ⟨v0, v1, false⟩) (by rw [hM']; exact k50_mkM _ _ _ ⟨v0, v1, false⟩) (fun _ hk => hk)); have hz0 : w'.cell? ⟨g, i * 3, none⟩ = some (.int .i64 (rd_T50 m i).f0) := hcc 0 _ (by rw [hM']; rfl); have hz1 : w'.cell? ⟨g, i * 3 + 1, none⟩ = some (.int .i64 (rd_T50 m i).f1) := hcc 1 _ (by rw [hM']; rfl); have hz2 : w'.cell? ⟨g, i * 3 + 2, none⟩ = some (.bool (rd_T50 m i).f2) := hcc 2 _ (by rw [hM']; rfl); have hf0 : w'.frozen? ⟨g, i * 3, none⟩ = false := hfr 0; have hf1 : w'.frozen? ⟨g, i * 3 + 1, none⟩ = false := hfr 1; have hf2 : w'.frozen? ⟨g, i * 3 + 2, none⟩ = false := hfr 2; clear hcl hM hM' hcc hfr))
          go_roundg (n - (j + 1))
          case measure => omega
          case rel =>
            refine ⟨i + 1, j + 1, m.set i ⟨v0, v1, false⟩, by go_num, by go_num, by omega, by omega, by omega, ⟨by simpa using hm.out⟩, ⟨?_⟩, ⟨?_⟩, ⟨HP.out.1⟩, ⟨(((HBm.out.trans (hb'.out.mono (by have := HBm.out.size; omega))).setCell (p := ⟨g, i * 3, none⟩) hbg _).setCell (p := ⟨g, i * 3 + 1, none⟩) hbg _).setCell (p := ⟨g, i * 3 + 2, none⟩) hbg _⟩⟩
            · rw [hfl.out, ← htk.out, List.take_add_one, List.getElem?_set_self (by have := hm.out; omega), hrq.out, List.take_set, List.set_eq_of_length_le (by simp; omega)]
              rfl
            · rw [List.drop_set_of_lt (by omega)]
              exact hdp1.out
      · obtain rfl : j = n := by omega
        have hltz : ¬ (j : Int) < (j : Int) := by omega
        have hil : (i : Int) ≤ (j : Int) := by omega
        have hiz : (0 : Int) ≤ (i : Int) := by omega
        obtain ⟨inner, ho⟩ := Kd.R_own HRm.out
        obtain ⟨m', hm', htm, hgm⟩ := row_clear HRm.out i (j - i) (by omega)
        have hcl : ∀ ty, (Builtin.clear_ #[40] ty #[.slice (some ⟨g, i * 3, none⟩) (j - i) (c - i)]).run Tryd.prog wr = .ok (.tuple #[]) (wr.setCells g (i * 3) (zsR (j - i))) := by
          intro ty
          rcases ho.2 with ⟨hv, _⟩ | ⟨g', cap', cur, hv, _, hh, hncap, _, hcs, _⟩
          · cases hv
          · injection hv with hv1 hv2 hv3
            injection hv1 with hv1
            injection hv1 with hv1 _ _
            subst hv1
            subst hv3
            have hcs' : cur.size = c * 3 := hcs
            have hjc : j ≤ c := by have := hm.out; omega
            refine clear_run ty wr g (i * 3) (j - i) (c - i) (by omega) (fun x hx => ?_) (fun x hx => bFz hh _)
            rw [bCe hh, Array.getElem?_eq_getElem (by omega)]
            rfl
        clear ho
        have hml := (Kd.R_reads' hm').1
        have hrt := Kd.R_take hm' (m := i) (by omega)
        rw [htm, htk.out, List.take_of_length_le (by have := hn.out; omega)] at hrt
        replace hrt := AsZ.mk hrt
        clear hml
        replace hm' := AsZ.mk hm'
        replace htm := AsZ.mk htm
        replace hgm := AsZ.mk hgm
        go_wp2
        go_ret
        exact ⟨_, rfl, hrt.out, HBm.out.grown hgm.out (by have := HBm.out.size; omega) (fun k e => by cases e; exact hbg)⟩
/-- runs.Missing. -/
theorem missing_calls (A : Option Addr) (c : Nat) (l : List S50) (w : World) (hC : Kd.C k50 w A l.length l) (hc : l.length ≤ c) (hb : l.length ≤ 1000000) :
    Calls Tryd.prog 24 #[.slice A l.length c] w fun e w' => ∃ v, e = .returned v ∧ Kd.R k50 50 w' w.heap.size (fun _ => True) v (l.filter (fun r => !r.f2)) ∧ Below w.heap.size w w' := by
  have HC := AsZ.mk (clone_calls A c l w hC hc hb)
  clear hC
  go_enter Tryd.func24, Tryd.ntmps24
  go_wp2_with (first | (go_at_call 48; refine HC.out.mono ?_; rintro e w1 ⟨v, rfl, hR, hb1⟩; obtain ⟨A1, c1, rfl⟩ := Kd.R_slice hR; replace hR := AsZ.mk hR; replace hb1 := AsZ.mk hb1) | (go_at_call 47; refine (del_calls A1 c1 l w.heap.size w1 hR.out hb1.out.size hb).mono ?_; rintro e w2 ⟨v2, rfl, hR2, hb2⟩; obtain ⟨A2, c2, rfl⟩ := Kd.R_slice hR2; replace hR2 := AsZ.mk hR2; replace hb2 := AsZ.mk hb2))
  go_ret
  exact ⟨_, rfl, hR2.out, hb1.out.trans hb2.out⟩
end Go.Proofs.YtcnlmpjoghogbaaDoor.Ag
namespace Go.Proofs.YtcnlmpjoghogbaaDoor.PAll
open Go.RowKit Go.Proofs.YtcnlmpjoghogbaaDoor.Xw Go.Proofs.YtcnlmpjoghogbaaDoorW.PrintWords Go.Proofs.YtcnlmpjoghogbaaDoorW.PrintLast Go.Proofs.YtcnlmpjoghogbaaDoorW.PrintMore
attribute [local go_sem] max2_int min2_int max_two min_two max_three min_three max_four min_four   -- for this text's walks alone
set_option linter.unusedVariables false
set_option linter.unusedSimpArgs false
attribute [local go_sem high] eqA50
def spenceref24_Split.l0 : Nat → List Int → List (S50) → List Int → Int → Int → Option ((List (S50)))
  | 0, _, _, _, _, _ => none
  | k + 1, x1, x5, x11, x12, x13 => if x13 < x12 then (if 0 ≤ x13 then (if x13 < (x11.length : Int) then ((spenceref01_In.f k x1 (rd x11 x13)).bind fun t158 => (if (x5.length : Int) > 0 then (if 0 ≤ (wrap64 ((x5.length : Int) - 1)) then (if (wrap64 ((x5.length : Int) - 1)) < (x5.length : Int) then (if ((rd_T50 x5 (wrap64 ((x5.length : Int) - 1))).f1) = (rd x11 x13) then (if (((rd_T50 x5 (wrap64 ((x5.length : Int) - 1))).f2) == t158) = true then (spenceref24_Split.l0 k x1 (x5.set ((wrap64 ((x5.length : Int) - 1)) : Int).toNat (⟨(rd_T50 x5 (wrap64 ((x5.length : Int) - 1))).f0, wrap64 ((rd x11 x13) + 1), (rd_T50 x5 (wrap64 ((x5.length : Int) - 1))).f2⟩ : S50)) x11 x12 (wrap64 (x13 + 1))) else (if x5.length < 5864062014805 then (spenceref24_Split.l0 k x1 (x5 ++ [(⟨rd x11 x13, wrap64 ((rd x11 x13) + 1), t158⟩ : S50)]) x11 x12 (wrap64 (x13 + 1))) else (none))) else (if x5.length < 5864062014805 then (spenceref24_Split.l0 k x1 (x5 ++ [(⟨rd x11 x13, wrap64 ((rd x11 x13) + 1), t158⟩ : S50)]) x11 x12 (wrap64 (x13 + 1))) else (none))) else (none)) else (none)) else (if x5.length < 5864062014805 then (spenceref24_Split.l0 k x1 (x5 ++ [(⟨rd x11 x13, wrap64 ((rd x11 x13) + 1), t158⟩ : S50)]) x11 x12 (wrap64 (x13 + 1))) else (none)))) else (none)) else (none)) else (some x5)
def spenceref24_Split.f (k : Nat) (l0 : List Int) (l1 : List Int) : Option ((List (S50))) := (spenceref24_Sorted.f k l0).bind fun t154 => (spenceref24_Split.l0 k l1 ([] : List (S50)) t154 (t154.length : Int) 0)
theorem spenceref24_Split.mono_l : ∀ k, (∀ y0 y1 y2 y3 y4, LeO (spenceref24_Split.l0 k y0 y1 y2 y3 y4) (spenceref24_Split.l0 (k + 1) y0 y1 y2 y3 y4))
  | 0 => fun _ _ _ _ _ r h => by simp [spenceref24_Split.l0] at h
  | k + 1 => by
    have ih0 := spenceref24_Split.mono_l k
    · intro y0 y1 y2 y3 y4
      unfold spenceref24_Split.l0
      repeat' first
      | (with_reducible exact ih0 _ _ _ _ _)
      | (with_reducible exact spenceref01_In.mono _ _ _)
      | (with_reducible exact spenceref24_Sorted.mono _ _)
      | (with_reducible exact LeO.refl _)
      | (with_reducible exact LeO.none _)
      | (with_reducible refine LeO.ite ?_ ?_)
      | (with_reducible refine LeO.bind ?_ (fun _ => ?_))
      | exact ih0 _ _ _ _ _
      | exact spenceref01_In.mono _ _ _
      | exact spenceref24_Sorted.mono _ _
      | exact LeO.none _
      | refine LeO.ite ?_ ?_
      | refine LeO.bind ?_ (fun _ => ?_)
theorem spenceref24_Split.mono : ∀ a0 a1 k, LeO (spenceref24_Split.f k a0 a1) (spenceref24_Split.f (k + 1) a0 a1) := by
  intro a0 a1 k
  have ih0 := spenceref24_Split.mono_l k
  unfold spenceref24_Split.f
  repeat' first
      | (with_reducible exact ih0 _ _ _ _ _)
      | (with_reducible exact spenceref01_In.mono _ _ _)
      | (with_reducible exact spenceref24_Sorted.mono _ _)
      | (with_reducible exact LeO.refl _)
      | (with_reducible exact LeO.none _)
      | (with_reducible refine LeO.ite ?_ ?_)
      | (with_reducible refine LeO.bind ?_ (fun _ => ?_))
      | exact ih0 _ _ _ _ _
      | exact spenceref01_In.mono _ _ _
      | exact spenceref24_Sorted.mono _ _
      | exact LeO.none _
      | refine LeO.ite ?_ ?_
      | refine LeO.bind ?_ (fun _ => ?_)
set_option maxHeartbeats 8000000 in
set_option maxRecDepth 100000 in
theorem spenceref24_Split.calls (k : Nat) (A0 : Option Addr) (c0 : Nat) (l0 : List Int) (A1 : Option Addr) (c1 : Nat) (l1 : List Int) (r : List (S50)) (w : World) (hr0 : Kd.C (Kd.int .i64) w A0 l0.length l0) (hc0 : l0.length ≤ c0) (hr1 : Kd.C (Kd.int .i64) w A1 l1.length l1) (hc1 : l1.length ≤ c1) (h : spenceref24_Split.f k l0 l1 = some r) :
    Calls Tryd.prog 22 #[.slice A0 l0.length c0, .slice A1 l1.length c1] w fun e w' => ∃ v0_ : Value, e = .returned (v0_) ∧ Kd.R k50 50 w' w.heap.size (fun _ => True) v0_ r ∧ Below w.heap.size w w' := by
  have hu50 := Tryd.underlying50
  have HR0 := AsZ.mk hr0
  have HC0 := AsZ.mk hc0
  clear hr0 hc0
  have HR1 := AsZ.mk hr1
  have HC1 := AsZ.mk hc1
  clear hr1 hc1
  have HB := AsZ.mk (Below.refl w.heap.size w)
  have H : ((spenceref24_Sorted.f k l0).bind fun t154 => (spenceref24_Split.l0 k l1 ([] : List (S50)) t154 (t154.length : Int) 0)) = some r := h
  clear h
  replace H := Option.bind_eq_some_iff.mp H
  obtain ⟨t154, A30, H⟩ := H
  replace H : (spenceref24_Split.l0 k l1 ([] : List (S50)) t154 (t154.length : Int) 0) = some r := H
  have A3 := AsZ.mk A30
  clear A30
  have H' := AsZ.mk H
  clear H
  go_enter Tryd.func22, Tryd.ntmps22
  go_wp2_with (first | ((with_reducible refine gCa (f := 11) rfl ?_); refine gLl (some 11) rfl rfl Tryd.func11 (by kernel_rfl) rfl #[.slice A0 l0.length c0] rfl (by (try simp only [List.map_toArray, List.map_cons, List.map_nil]); first | done | rfl | (simp only [List.length_drop, List.length_take]; rfl)) ?_; (with_reducible refine (spenceref24_Sorted.calls k _ _ l0 t154 _ ?side1 ?side2 A3.out).mono ?_); (case side1 => repeat (first | exact HR0.out | (with_reducible refine Kd.C_alloc ?_ _) | (with_reducible refine Kd.C_drewN ?_ _) | (with_reducible refine Kd.C_drew ?_))); (case side2 => exact HC0.out); rintro e w4 ⟨v155, rfl, ho0, hb⟩; refine ⟨_, rfl, ?_⟩; have n0_ := AsZ.mk (Kd.R_lower ho0 (zBl (by repeat (first | (with_reducible first | exact HB.out | apply aBl | apply pBd | apply dBl) | exact HB.out)))); have n1_ := AsZ.mk (tBl (by repeat (first | (with_reducible first | exact HB.out | apply aBl | apply pBd | apply dBl) | exact HB.out)) hb); clear HB; have HO156 := n0_; have HB := n1_; clear n0_ n1_; (try clear hb); (try clear hb2); (try clear hk); (try clear hi); (try clear ho0); obtain ⟨Ao5, co5, eo5⟩ := Kd.R_slice HO156.out; subst eo5))
  go_loopg [5, 13] k (fun kq v5 v13 w' => ∃ (x5_1 : List (S50)) (x13_1 : Int), v13 = .int .i64 x13_1 ∧ AsZ (spenceref24_Split.l0 kq l1 x5_1 t154 (t154.length : Int) x13_1 = some r) ∧ AsZ (kq ≤ k) ∧ AsZ (Kd.R k50 50 w' w.heap.size (fun _ => True) v5 x5_1) ∧ AsZ (Kd.R (Kd.int .i64) 3 w' w.heap.size (fun _ => True) (.slice Ao5 t154.length co5) t154) ∧ AsZ (Below w.heap.size w w'))
  case atStart => exact ⟨(([] : List (S50))), (0), (by first | rfl | (simp; done) | (simp [*]; done)), H', ⟨Nat.le_refl _⟩, ⟨by first | exact Kd.R_nil _ _ _ _ _ | exact Kd.N_nil _ _ _ _ _ | exact Kd.V_nil _ _ _ _ _ | exact Kd.Q_nil _ _ _ _ _ | exact Kd.S_nil _ _ _ _ _⟩, ⟨by (with_reducible repeat (first | apply Kd.R_alloc | apply Kd.R_drewN | apply Kd.R_drew)); exact HO156.out⟩, ⟨by repeat (first | (with_reducible first | exact HB.out | apply aBl | apply pBd | apply dBl) | exact HB.out)⟩⟩
  case round =>
    clear H'
    try clear c1
    try clear c2
    try clear p2
    obtain ⟨x5_1, x13_1, rfl, HA, HK1, HO_5, HO_11, HB⟩ := hrel
    cases gk with
    | zero => exact absurd HA.out (by simp [spenceref24_Split.l0])
    | succ k1 =>
      have H := HA.out
      clear HA
      simp only [spenceref24_Split.l0] at H
      by_cases c6 : x13_1 < (t154.length : Int)
      · rw [if_pos c6] at H
        have c6b0 : decide (x13_1 < (t154.length : Int)) = true := decide_eq_true c6
        clear c6
        by_cases c7 : 0 ≤ x13_1
        · rw [if_pos c7] at H
          have c7b0 : decide (0 ≤ x13_1) = true := decide_eq_true c7
          clear c7
          by_cases c8 : x13_1 < (t154.length : Int)
          · rw [if_pos c8] at H
            have c8b0 : decide (x13_1 < (t154.length : Int)) = true := decide_eq_true c8
            clear c8
            replace H := Option.bind_eq_some_iff.mp H
            obtain ⟨t158, A90, H⟩ := H
            replace H : (if (x5_1.length : Int) > 0 then (if 0 ≤ (wrap64 ((x5_1.length : Int) - 1)) then (if (wrap64 ((x5_1.length : Int) - 1)) < (x5_1.length : Int) then (if ((rd_T50 x5_1 (wrap64 ((x5_1.length : Int) - 1))).f1) = (rd t154 x13_1) then (if (((rd_T50 x5_1 (wrap64 ((x5_1.length : Int) - 1))).f2) == t158) = true then (spenceref24_Split.l0 k1 l1 (x5_1.set ((wrap64 ((x5_1.length : Int) - 1)) : Int).toNat (⟨(rd_T50 x5_1 (wrap64 ((x5_1.length : Int) - 1))).f0, wrap64 ((rd t154 x13_1) + 1), (rd_T50 x5_1 (wrap64 ((x5_1.length : Int) - 1))).f2⟩ : S50)) t154 (t154.length : Int) (wrap64 (x13_1 + 1))) else (if x5_1.length < 5864062014805 then (spenceref24_Split.l0 k1 l1 (x5_1 ++ [(⟨rd t154 x13_1, wrap64 ((rd t154 x13_1) + 1), t158⟩ : S50)]) t154 (t154.length : Int) (wrap64 (x13_1 + 1))) else (none))) else (if x5_1.length < 5864062014805 then (spenceref24_Split.l0 k1 l1 (x5_1 ++ [(⟨rd t154 x13_1, wrap64 ((rd t154 x13_1) + 1), t158⟩ : S50)]) t154 (t154.length : Int) (wrap64 (x13_1 + 1))) else (none))) else (none)) else (none)) else (if x5_1.length < 5864062014805 then (spenceref24_Split.l0 k1 l1 (x5_1 ++ [(⟨rd t154 x13_1, wrap64 ((rd t154 x13_1) + 1), t158⟩ : S50)]) t154 (t154.length : Int) (wrap64 (x13_1 + 1))) else (none))) = some r := H
            have A9 := AsZ.mk A90
            clear A90
            by_cases c10 : (x5_1.length : Int) > 0
            · rw [if_pos c10] at H
              have c10b0 : decide (0 < (x5_1.length : Int)) = true := decide_eq_true c10
              have c10b1 : decide (0 < x5_1.length) = true := decide_eq_true (by omega)
              clear c10
              obtain ⟨ji11, hji11⟩ : ∃ j_ : Int, (wrap64 ((x5_1.length : Int) - 1)) = j_ := ⟨_, rfl⟩
              replace H : (if 0 ≤ (ji11) then (if (ji11) < (x5_1.length : Int) then (if ((rd_T50 x5_1 (ji11)).f1) = (rd t154 x13_1) then (if (((rd_T50 x5_1 (ji11)).f2) == t158) = true then (spenceref24_Split.l0 k1 l1 (x5_1.set ((ji11) : Int).toNat (⟨(rd_T50 x5_1 (ji11)).f0, wrap64 ((rd t154 x13_1) + 1), (rd_T50 x5_1 (ji11)).f2⟩ : S50)) t154 (t154.length : Int) (wrap64 (x13_1 + 1))) else (if x5_1.length < 5864062014805 then (spenceref24_Split.l0 k1 l1 (x5_1 ++ [(⟨rd t154 x13_1, wrap64 ((rd t154 x13_1) + 1), t158⟩ : S50)]) t154 (t154.length : Int) (wrap64 (x13_1 + 1))) else (none))) else (if x5_1.length < 5864062014805 then (spenceref24_Split.l0 k1 l1 (x5_1 ++ [(⟨rd t154 x13_1, wrap64 ((rd t154 x13_1) + 1), t158⟩ : S50)]) t154 (t154.length : Int) (wrap64 (x13_1 + 1))) else (none))) else (none)) else (none)) = some r := by first | (rw [hji11] at H; exact H) | (simp only [hji11] at H ⊢; exact H)
              (try rw [hji11] at A9)
              have hji11w : (IntKind.i64.wrap ((x5_1.length : Int) - 1)) = ji11 := (i64_w _).trans hji11
              by_cases c12 : 0 ≤ (ji11)
              · rw [if_pos c12] at H
                have c12b0 : decide (0 ≤ (ji11)) = true := decide_eq_true c12
                clear c12
                by_cases c13 : (ji11) < (x5_1.length : Int)
                · rw [if_pos c13] at H
                  have c13b0 : decide ((ji11) < (x5_1.length : Int)) = true := decide_eq_true c13
                  clear c13
                  by_cases c14 : ((rd_T50 x5_1 (ji11)).f1) = (rd t154 x13_1)
                  · rw [if_pos c14] at H
                    have c14b0 : (((rd_T50 x5_1 (ji11)).f1) == (rd t154 x13_1)) = true := beq_iff_eq.mpr c14
                    have c14b1 : (((rd_T50 x5_1 (ji11)).f1) != (rd t154 x13_1)) = false := bne_eq_false_iff_eq.mpr c14
                    clear c14
                    by_cases c15 : (((rd_T50 x5_1 (ji11)).f2) == t158) = true
                    · rw [if_pos c15] at H
                      have c15b0 : (((rd_T50 x5_1 (ji11)).f2) == t158) = true := c15
                      (try (have c15b1 : decide (((rd_T50 x5_1 (ji11)).f2) = t158) = true := by simpa using c15))
                      (try (have c15b2 : (((rd_T50 x5_1 (ji11)).f2) == t158) = true := by simpa using c15))
                      clear c15
                      obtain ⟨y161, hy161⟩ : ∃ y_ : List (S50), y_ = (x5_1.set ((ji11) : Int).toNat (⟨(rd_T50 x5_1 (ji11)).f0, wrap64 ((rd t154 x13_1) + 1), (rd_T50 x5_1 (ji11)).f2⟩ : S50)) := ⟨_, rfl⟩
                      replace H : (spenceref24_Split.l0 k1 l1 y161 t154 (t154.length : Int) (wrap64 (x13_1 + 1))) = some r := by first | (rw [hy161]; with_reducible exact H) | (have H2_ := (Option.bind_some _ _).symm.trans H; rw [hy161]; with_reducible exact H2_) | (have H2_ := (Option.bind_some _ _).symm.trans H; with_reducible exact H2_) | with_reducible exact H | (rw [hy161]; exact H) | exact H
                      have Ny161 := AsZ.mk hy161
                      clear hy161
                      have H' := AsZ.mk H
                      clear H
                      have p157 : 0 ≤ (x13_1 : Int) := of_decide_eq_true (by first | (with_reducible assumption) | assumption)
                      have q157 : x13_1 < (t154.length : Int) := of_decide_eq_true (by first | (with_reducible assumption) | assumption)
                      obtain ⟨ad157, e157, hx157_0⟩ := Kd.at_int (Kd.R_reads' HO_11.out).2.2 x13_1 p157 q157
                      cases e157
                      replace p157 := eq_true p157
                      replace q157 := eq_true q157
                      go_wp2_with (first | ((with_reducible refine gCa (f := 13) rfl ?_); refine gLl (some 19) rfl rfl Tryd.func13 (by kernel_rfl) rfl #[.slice A1 l1.length c1, .int .i64 (rd t154 x13_1)] rfl (by (try simp only [List.map_toArray, List.map_cons, List.map_nil]); first | done | rfl | (simp only [List.length_drop, List.length_take]; rfl)) ?_; (with_reducible refine (spenceref01_In.calls k1 _ _ l1 (rd t154 x13_1) t158 _ ?side1 ?side2 A9.out).mono ?_); (case side1 => repeat (first | exact (Kd.C_below HR1.out HB.out) | (with_reducible refine Kd.C_alloc ?_ _) | (with_reducible refine Kd.C_drewN ?_ _) | (with_reducible refine Kd.C_drew ?_))); (case side2 => exact HC1.out); rintro e w' ⟨rfl, ⟨nd, rfl⟩⟩; refine ⟨_, rfl, ?_⟩; (try (rw [drewN_self wr]; generalize hq_ : World.drewN wr _ = wr; have n0_ : AsZ (Kd.R (Kd.int .i64) 3 wr w.heap.size (fun _ => True) (.slice (some ad157) t154.length co5) t154) := ⟨by rw [← hq_]; exact (by (with_reducible repeat (first | apply Kd.R_alloc | apply Kd.R_drewN | apply Kd.R_drew)); exact HO_11.out)⟩; have n1_ : AsZ (Kd.R k50 50 wr w.heap.size (fun _ => True) u5 x5_1) := ⟨by rw [← hq_]; exact (by (with_reducible repeat (first | apply Kd.R_alloc | apply Kd.R_drewN | apply Kd.R_drew)); exact HO_5.out)⟩; have n2_ : AsZ (Below w.heap.size w wr) := ⟨by rw [← hq_]; exact (by repeat (first | (with_reducible first | exact HB.out | apply aBl | apply pBd | apply dBl) | exact HB.out))⟩; clear HO_11 HO_5 HB hq_; have HO_11 := n0_; have HO_5 := n1_; have HB := n2_; clear n0_ n1_ n2_)); obtain ⟨Ao17, co17, eo17⟩ := Kd.R_slice HO_5.out; subst eo17; have p159 : 0 ≤ ((ji11) : Int) := of_decide_eq_true (by first | (with_reducible assumption) | assumption); have q159 : (ji11) < (x5_1.length : Int) := of_decide_eq_true (by first | (with_reducible assumption) | assumption); obtain ⟨ad159, e159, hx159_0, hx159_1, hx159_2⟩ := at_T50 (Kd.R_reads' HO_5.out).2.2 (ji11) p159 q159; cases e159; replace p159 := eq_true p159; replace q159 := eq_true q159; have p160 : 0 ≤ ((ji11) : Int) := of_decide_eq_true (by first | (with_reducible assumption) | assumption); have q160 : (ji11) < (x5_1.length : Int) := of_decide_eq_true (by first | (with_reducible assumption) | assumption); obtain ⟨ad160, e160, hx160_0, hx160_1, hx160_2⟩ := at_T50 (Kd.R_reads' HO_5.out).2.2 (ji11) p160 q160; obtain rfl : ad159 = ad160 := (by injection e160); replace p160 := eq_true p160; replace q160 := eq_true q160; have p16 : 0 ≤ ((ji11) : Int) := of_decide_eq_true (by first | (with_reducible assumption) | assumption); have q16 : ((ji11) : Int) < ((x5_1.length : Int) : Int) := of_decide_eq_true (by first | (with_reducible assumption) | assumption); obtain ⟨go16, co16, eo16, gb16, gl16, cl16, HG16⟩ := Kd.R_form HO_5.out (by omega); (first | cases eo16 | (injection eo16 with ea_ en_ ec_; (first | subst ea_ | (injection ea_ with ea_; subst ea_)); subst ec_; clear en_)); have GB16 := AsZ.mk gb16; have GG16 := AsZ.mk HG16; clear gb16 gl16 HG16; (first | simp only [add_plain] at hx159_0 | skip); (first | simp only [add_plain] at hx159_1 | skip); (first | simp only [add_plain] at hx159_2 | skip); (first | simp only [add_plain] at hx160_0 | skip); (first | simp only [add_plain] at hx160_1 | skip); (first | simp only [add_plain] at hx160_2 | skip); obtain ⟨ce16, hcl16, hM16, hcc16, hfr16⟩ := Kd.R_elem HO_5.out z50 ((ji11) : Int) p16 q16; obtain rfl := k50_openM hM16; have hx16_0 : wr.cell? ⟨go16, ((ji11) : Int).toNat * 3, none⟩ = some (.int .i64 ((rd_T50 x5_1 (ji11)).f0)) := hcc16 0 _ rfl; have hx16_1 : wr.cell? ⟨go16, ((ji11) : Int).toNat * 3 + 1, none⟩ = some (.int .i64 ((rd_T50 x5_1 (ji11)).f1)) := hcc16 1 _ rfl; have hx16_2 : wr.cell? ⟨go16, ((ji11) : Int).toNat * 3 + 2, none⟩ = some (.bool ((rd_T50 x5_1 (ji11)).f2)) := hcc16 2 _ rfl; have hf16_0 : wr.frozen? ⟨go16, ((ji11) : Int).toNat * 3, none⟩ = false := hfr16 0; have hf16_1 : wr.frozen? ⟨go16, ((ji11) : Int).toNat * 3 + 1, none⟩ = false := hfr16 1; have hf16_2 : wr.frozen? ⟨go16, ((ji11) : Int).toNat * 3 + 2, none⟩ = false := hfr16 2; clear hcl16 hcc16 hfr16 hM16; replace p16 := eq_true p16; replace q16 := eq_true q16; have HX18 := AsZ.mk (show Kd.R k50 50 wr w.heap.size (fun _ => True) (.slice (some ⟨go16, 0, none⟩) x5_1.length co17) x5_1 from (by (with_reducible repeat (first | apply Kd.R_alloc | apply Kd.R_drewN | apply Kd.R_drew)); exact HO_5.out)); obtain ⟨ce18, hcl18, hM18, hcc18, hfr18⟩ := Kd.R_elem HX18.out z50 ((ji11) : Int) (of_decide_eq_true (by first | (with_reducible assumption) | assumption)) (by have h_ : ((ji11) : Int) < ((x5_1.length : Int) : Int) := of_decide_eq_true (by first | (with_reducible assumption) | assumption); first | exact h_ | (have e_ := (Kd.R_reads' HO_5.out).1; omega) | simpa using h_); obtain rfl := k50_openM hM18; have HP18 := Kd.R_seg HX18.out ((ji11) : Int) (of_decide_eq_true (by first | (with_reducible assumption) | assumption)) (by have h_ : ((ji11) : Int) < ((x5_1.length : Int) : Int) := of_decide_eq_true (by first | (with_reducible assumption) | assumption); first | exact h_ | (have e_ := (Kd.R_reads' HO_5.out).1; omega) | simpa using h_) (seg := [.int .i64 (wrap64 ((rd t154 x13_1) + 1))]) (j := 1) hcl18 hcc18 (show 2 ≤ 3 from by decide) (x' := (⟨(rd_T50 x5_1 (ji11)).f0, wrap64 ((rd t154 x13_1) + 1), (rd_T50 x5_1 (ji11)).f2⟩ : S50)) (k50_mkM _ _ _ (⟨(rd_T50 x5_1 (ji11)).f0, wrap64 ((rd t154 x13_1) + 1), (rd_T50 x5_1 (ji11)).f2⟩ : S50) ) (fun _ hk => hk); have hx18_1 := hcc18 1 _ rfl; (try simp only [show (k50).sz = 3 from rfl, Nat.mul_one, Nat.add_zero] at hx18_1); have hf18_1 := hfr18 1; (try simp only [show (k50).sz = 3 from rfl, Nat.mul_one, Nat.add_zero] at hf18_1); clear hcl18 hcc18 hfr18 hM18) | ((with_reducible refine gate_store (t := 3) (p := 50) rfl ?_); refine store_event (t := 3) (p := 50) (v := ?vo_w19) (w1 := (wr.setCell ⟨go16, ((ji11) : Int).toNat * 3 + 1, none⟩ (.int .i64 (wrap64 ((rd t154 x13_1) + 1))))) ?hg ?ho ?hn ?hr ?_; (case ho => rfl); (case hg => rfl); (case hn => rfl); (case hr => first | (go_simp; done) | (go_simp; rfl)); intro w19 hw; have hg : wr.grownBy w19 (some go16) := (by rw [hw]; exact HP18.2); have hp_ : Kd.R k50 50 w19 w.heap.size (fun _ => True) (.slice (some ⟨go16, 0, none⟩) x5_1.length co17) y161 := (by rw [hw, Ny161.out]; exact HP18.1); clear HP18; have n0_ := AsZ.mk (hp_); have n1_ := AsZ.mk (Kd.R_over' (v := (.slice (some ⟨go16, 0, none⟩) x5_1.length co17)) (by (with_reducible repeat (first | apply Kd.R_alloc | apply Kd.R_drewN | apply Kd.R_drew)); exact HO_11.out) (Kd.R_typed HO_5.out) (by decide) hg); have n2_ := AsZ.mk ((by rw [hw]; exact sBl (HB.out) GB16.out : Below w.heap.size w w19)); clear HO_5; clear HO_11; clear HB; have HO_5 := n0_; have HO_11 := n1_; have HB := n2_; clear n0_ n1_ n2_; clear hg hw hp_))
                      go_roundg k1
                      case measure => have := HK1.out; omega
                      case rel => exact ⟨(y161), (wrap64 (x13_1 + 1)), (by first | rfl | (simp; done) | (simp [*]; done)), H', ⟨by have := HK1.out; omega⟩, ⟨by (with_reducible repeat (first | apply Kd.R_alloc | apply Kd.R_drewN | apply Kd.R_drew)); exact HO_5.out⟩, ⟨by (with_reducible repeat (first | apply Kd.R_alloc | apply Kd.R_drewN | apply Kd.R_drew)); exact HO_11.out⟩, ⟨by repeat (first | (with_reducible first | exact HB.out | apply aBl | apply pBd | apply dBl) | exact HB.out)⟩⟩
                    · rw [if_neg c15] at H
                      have c15b0 : (((rd_T50 x5_1 (ji11)).f2) == t158) = false := by simpa using c15
                      (try (have c15b1 : decide (((rd_T50 x5_1 (ji11)).f2) = t158) = false := by simpa using c15))
                      (try (have c15b2 : (((rd_T50 x5_1 (ji11)).f2) == t158) = false := by simpa using c15))
                      (try (have c15b3 : ¬ (((rd_T50 x5_1 (ji11)).f2) = t158) := by simpa using c15))
                      clear c15
                      by_cases c20 : x5_1.length < 5864062014805
                      · rw [if_pos c20] at H
                        have LMc20 := AsZ.mk c20
                        clear c20
                        obtain ⟨y162, hy162⟩ : ∃ y_ : List (S50), y_ = (x5_1 ++ [(⟨rd t154 x13_1, wrap64 ((rd t154 x13_1) + 1), t158⟩ : S50)]) := ⟨_, rfl⟩
                        replace H : (spenceref24_Split.l0 k1 l1 y162 t154 (t154.length : Int) (wrap64 (x13_1 + 1))) = some r := by first | (rw [hy162]; with_reducible exact H) | (have H2_ := (Option.bind_some _ _).symm.trans H; rw [hy162]; with_reducible exact H2_) | (have H2_ := (Option.bind_some _ _).symm.trans H; with_reducible exact H2_) | with_reducible exact H | (rw [hy162]; exact H) | exact H
                        have Ny162 := AsZ.mk hy162
                        clear hy162
                        have H' := AsZ.mk H
                        clear H
                        have p157 : 0 ≤ (x13_1 : Int) := of_decide_eq_true (by first | (with_reducible assumption) | assumption)
                        have q157 : x13_1 < (t154.length : Int) := of_decide_eq_true (by first | (with_reducible assumption) | assumption)
                        obtain ⟨ad157, e157, hx157_0⟩ := Kd.at_int (Kd.R_reads' HO_11.out).2.2 x13_1 p157 q157
                        cases e157
                        replace p157 := eq_true p157
                        replace q157 := eq_true q157
                        go_wp2_with (first | ((with_reducible refine gCa (f := 13) rfl ?_); refine gLl (some 19) rfl rfl Tryd.func13 (by kernel_rfl) rfl #[.slice A1 l1.length c1, .int .i64 (rd t154 x13_1)] rfl (by (try simp only [List.map_toArray, List.map_cons, List.map_nil]); first | done | rfl | (simp only [List.length_drop, List.length_take]; rfl)) ?_; (with_reducible refine (spenceref01_In.calls k1 _ _ l1 (rd t154 x13_1) t158 _ ?side1 ?side2 A9.out).mono ?_); (case side1 => repeat (first | exact (Kd.C_below HR1.out HB.out) | (with_reducible refine Kd.C_alloc ?_ _) | (with_reducible refine Kd.C_drewN ?_ _) | (with_reducible refine Kd.C_drew ?_))); (case side2 => exact HC1.out); rintro e w' ⟨rfl, ⟨nd, rfl⟩⟩; refine ⟨_, rfl, ?_⟩; obtain ⟨Ao21, co21, eo21⟩ := Kd.R_slice HO_5.out; subst eo21; have p159 : 0 ≤ ((ji11) : Int) := of_decide_eq_true (by first | (with_reducible assumption) | assumption); have q159 : (ji11) < (x5_1.length : Int) := of_decide_eq_true (by first | (with_reducible assumption) | assumption); obtain ⟨ad159, e159, hx159_0, hx159_1, hx159_2⟩ := at_T50 (Kd.R_reads' HO_5.out).2.2 (ji11) p159 q159; cases e159; replace p159 := eq_true p159; replace q159 := eq_true q159; have p160 : 0 ≤ ((ji11) : Int) := of_decide_eq_true (by first | (with_reducible assumption) | assumption); have q160 : (ji11) < (x5_1.length : Int) := of_decide_eq_true (by first | (with_reducible assumption) | assumption); obtain ⟨ad160, e160, hx160_0, hx160_1, hx160_2⟩ := at_T50 (Kd.R_reads' HO_5.out).2.2 (ji11) p160 q160; obtain rfl : ad159 = ad160 := (by injection e160); replace p160 := eq_true p160; replace q160 := eq_true q160) | ((with_reducible refine gate_builtin (b := .append) (xs := #[.tmp 51, .tmp 57]) rfl ?_); at_builtin; refine Kd.R_append k50 (w0 := w) w.heap.size rfl (.tmp 51) (.tmp 57) 40 50 (.agg #[(.int .i64 0), (.int .i64 0), (.bool false)]) 24 rfl Tryd.underlying40 info50 rfl (by decide) (by omega) (.slice (some ad159) x5_1.length co21) x5_1 (⟨rd t154 x13_1, wrap64 ((rd t154 x13_1) + 1), t158⟩ : S50) [.int .i64 (rd t154 x13_1), .int .i64 (wrap64 ((rd t154 x13_1) + 1)), .bool t158] (fun _ => True) (fun _ => False) rfl rfl ?aP (fun _ hk => hk.elim) ?aF ?aO ?aB ?aS ?aL ?_; (case aP => exact k50_mkM _ _ _ (⟨rd t154 x13_1, wrap64 ((rd t154 x13_1) + 1), t158⟩ : S50)); (case aB => exact (by repeat (first | (with_reducible first | exact HB.out | apply aBl | apply pBd | apply dBl) | exact HB.out))); (case aF => exact (fun _ _ => trivial)); (case aO => exact (by (with_reducible repeat (first | apply Kd.R_alloc | apply Kd.R_drewN | apply Kd.R_drew)); exact HO_5.out)); (case aS => exact (zBl (by repeat (first | (with_reducible first | exact HB.out | apply aBl | apply pBd | apply dBl) | exact HB.out)))); (case aL => have := LMc20.out; omega); intro v163 w22 ho hb hg hat; rw [← Ny162.out] at ho; have n0_ := AsZ.mk (Kd.R_over' (by (with_reducible repeat (first | apply Kd.R_alloc | apply Kd.R_drewN | apply Kd.R_drew)); exact HO_11.out) (Kd.R_typed (by (with_reducible repeat (first | apply Kd.R_alloc | apply Kd.R_drewN | apply Kd.R_drew)); exact HO_5.out)) (by decide) hg); have n1_ := AsZ.mk (hb); have n2_ := AsZ.mk (ho); clear HO_11; clear HB; clear HO_5; have HO_11 := n0_; have HB := n1_; have HO164 := n2_; clear n0_ n1_ n2_; clear ho hb hg hat))
                        go_roundg k1
                        case measure => have := HK1.out; omega
                        case rel => exact ⟨(y162), (wrap64 (x13_1 + 1)), (by first | rfl | (simp; done) | (simp [*]; done)), H', ⟨by have := HK1.out; omega⟩, ⟨by (with_reducible repeat (first | apply Kd.R_alloc | apply Kd.R_drewN | apply Kd.R_drew)); exact HO164.out⟩, ⟨by (with_reducible repeat (first | apply Kd.R_alloc | apply Kd.R_drewN | apply Kd.R_drew)); exact HO_11.out⟩, ⟨by repeat (first | (with_reducible first | exact HB.out | apply aBl | apply pBd | apply dBl) | exact HB.out)⟩⟩
                      · rw [if_neg c20] at H
                        exact absurd H (by simp)
                  · rw [if_neg c14] at H
                    have c14b0 : (((rd_T50 x5_1 (ji11)).f1) == (rd t154 x13_1)) = false := beq_eq_false_iff_ne.mpr c14
                    have c14b1 : (((rd_T50 x5_1 (ji11)).f1) != (rd t154 x13_1)) = true := bne_iff_ne.mpr c14
                    by_cases c23 : x5_1.length < 5864062014805
                    · rw [if_pos c23] at H
                      have LMc23 := AsZ.mk c23
                      clear c23
                      obtain ⟨y165, hy165⟩ : ∃ y_ : List (S50), y_ = (x5_1 ++ [(⟨rd t154 x13_1, wrap64 ((rd t154 x13_1) + 1), t158⟩ : S50)]) := ⟨_, rfl⟩
                      replace H : (spenceref24_Split.l0 k1 l1 y165 t154 (t154.length : Int) (wrap64 (x13_1 + 1))) = some r := by first | (rw [hy165]; with_reducible exact H) | (have H2_ := (Option.bind_some _ _).symm.trans H; rw [hy165]; with_reducible exact H2_) | (have H2_ := (Option.bind_some _ _).symm.trans H; with_reducible exact H2_) | with_reducible exact H | (rw [hy165]; exact H) | exact H
                      have Ny165 := AsZ.mk hy165
                      clear hy165
                      have H' := AsZ.mk H
                      clear H
                      have p157 : 0 ≤ (x13_1 : Int) := of_decide_eq_true (by first | (with_reducible assumption) | assumption)
                      have q157 : x13_1 < (t154.length : Int) := of_decide_eq_true (by first | (with_reducible assumption) | assumption)
                      obtain ⟨ad157, e157, hx157_0⟩ := Kd.at_int (Kd.R_reads' HO_11.out).2.2 x13_1 p157 q157
                      cases e157
                      replace p157 := eq_true p157
                      replace q157 := eq_true q157
                      go_wp2_with (first | ((with_reducible refine gCa (f := 13) rfl ?_); refine gLl (some 19) rfl rfl Tryd.func13 (by kernel_rfl) rfl #[.slice A1 l1.length c1, .int .i64 (rd t154 x13_1)] rfl (by (try simp only [List.map_toArray, List.map_cons, List.map_nil]); first | done | rfl | (simp only [List.length_drop, List.length_take]; rfl)) ?_; (with_reducible refine (spenceref01_In.calls k1 _ _ l1 (rd t154 x13_1) t158 _ ?side1 ?side2 A9.out).mono ?_); (case side1 => repeat (first | exact (Kd.C_below HR1.out HB.out) | (with_reducible refine Kd.C_alloc ?_ _) | (with_reducible refine Kd.C_drewN ?_ _) | (with_reducible refine Kd.C_drew ?_))); (case side2 => exact HC1.out); rintro e w' ⟨rfl, ⟨nd, rfl⟩⟩; refine ⟨_, rfl, ?_⟩; obtain ⟨Ao24, co24, eo24⟩ := Kd.R_slice HO_5.out; subst eo24; have p159 : 0 ≤ ((ji11) : Int) := of_decide_eq_true (by first | (with_reducible assumption) | assumption); have q159 : (ji11) < (x5_1.length : Int) := of_decide_eq_true (by first | (with_reducible assumption) | assumption); obtain ⟨ad159, e159, hx159_0, hx159_1, hx159_2⟩ := at_T50 (Kd.R_reads' HO_5.out).2.2 (ji11) p159 q159; cases e159; replace p159 := eq_true p159; replace q159 := eq_true q159) | ((with_reducible refine gate_builtin (b := .append) (xs := #[.tmp 51, .tmp 57]) rfl ?_); at_builtin; refine Kd.R_append k50 (w0 := w) w.heap.size rfl (.tmp 51) (.tmp 57) 40 50 (.agg #[(.int .i64 0), (.int .i64 0), (.bool false)]) 24 rfl Tryd.underlying40 info50 rfl (by decide) (by omega) (.slice (some ad159) x5_1.length co24) x5_1 (⟨rd t154 x13_1, wrap64 ((rd t154 x13_1) + 1), t158⟩ : S50) [.int .i64 (rd t154 x13_1), .int .i64 (wrap64 ((rd t154 x13_1) + 1)), .bool t158] (fun _ => True) (fun _ => False) rfl rfl ?aP (fun _ hk => hk.elim) ?aF ?aO ?aB ?aS ?aL ?_; (case aP => exact k50_mkM _ _ _ (⟨rd t154 x13_1, wrap64 ((rd t154 x13_1) + 1), t158⟩ : S50)); (case aB => exact (by repeat (first | (with_reducible first | exact HB.out | apply aBl | apply pBd | apply dBl) | exact HB.out))); (case aF => exact (fun _ _ => trivial)); (case aO => exact (by (with_reducible repeat (first | apply Kd.R_alloc | apply Kd.R_drewN | apply Kd.R_drew)); exact HO_5.out)); (case aS => exact (zBl (by repeat (first | (with_reducible first | exact HB.out | apply aBl | apply pBd | apply dBl) | exact HB.out)))); (case aL => have := LMc23.out; omega); intro v166 w25 ho hb hg hat; rw [← Ny165.out] at ho; have n0_ := AsZ.mk (Kd.R_over' (by (with_reducible repeat (first | apply Kd.R_alloc | apply Kd.R_drewN | apply Kd.R_drew)); exact HO_11.out) (Kd.R_typed (by (with_reducible repeat (first | apply Kd.R_alloc | apply Kd.R_drewN | apply Kd.R_drew)); exact HO_5.out)) (by decide) hg); have n1_ := AsZ.mk (hb); have n2_ := AsZ.mk (ho); clear HO_11; clear HB; clear HO_5; have HO_11 := n0_; have HB := n1_; have HO167 := n2_; clear n0_ n1_ n2_; clear ho hb hg hat))
                      go_roundg k1
                      case measure => have := HK1.out; omega
                      case rel => exact ⟨(y165), (wrap64 (x13_1 + 1)), (by first | rfl | (simp; done) | (simp [*]; done)), H', ⟨by have := HK1.out; omega⟩, ⟨by (with_reducible repeat (first | apply Kd.R_alloc | apply Kd.R_drewN | apply Kd.R_drew)); exact HO167.out⟩, ⟨by (with_reducible repeat (first | apply Kd.R_alloc | apply Kd.R_drewN | apply Kd.R_drew)); exact HO_11.out⟩, ⟨by repeat (first | (with_reducible first | exact HB.out | apply aBl | apply pBd | apply dBl) | exact HB.out)⟩⟩
                    · rw [if_neg c23] at H
                      exact absurd H (by simp)
                · rw [if_neg c13] at H
                  exact absurd H (by simp)
              · rw [if_neg c12] at H
                exact absurd H (by simp)
            · rw [if_neg c10] at H
              have c10b0 : decide (0 < (x5_1.length : Int)) = false := decide_eq_false c10
              have c10b1 : decide (0 < x5_1.length) = false := decide_eq_false (by omega)
              clear c10
              by_cases c26 : x5_1.length < 5864062014805
              · rw [if_pos c26] at H
                have LMc26 := AsZ.mk c26
                clear c26
                obtain ⟨y168, hy168⟩ : ∃ y_ : List (S50), y_ = (x5_1 ++ [(⟨rd t154 x13_1, wrap64 ((rd t154 x13_1) + 1), t158⟩ : S50)]) := ⟨_, rfl⟩
                replace H : (spenceref24_Split.l0 k1 l1 y168 t154 (t154.length : Int) (wrap64 (x13_1 + 1))) = some r := by first | (rw [hy168]; with_reducible exact H) | (have H2_ := (Option.bind_some _ _).symm.trans H; rw [hy168]; with_reducible exact H2_) | (have H2_ := (Option.bind_some _ _).symm.trans H; with_reducible exact H2_) | with_reducible exact H | (rw [hy168]; exact H) | exact H
                have Ny168 := AsZ.mk hy168
                clear hy168
                have H' := AsZ.mk H
                clear H
                have p157 : 0 ≤ (x13_1 : Int) := of_decide_eq_true (by first | (with_reducible assumption) | assumption)
                have q157 : x13_1 < (t154.length : Int) := of_decide_eq_true (by first | (with_reducible assumption) | assumption)
                obtain ⟨ad157, e157, hx157_0⟩ := Kd.at_int (Kd.R_reads' HO_11.out).2.2 x13_1 p157 q157
                cases e157
                replace p157 := eq_true p157
                replace q157 := eq_true q157
                go_wp2_with (first | ((with_reducible refine gCa (f := 13) rfl ?_); refine gLl (some 19) rfl rfl Tryd.func13 (by kernel_rfl) rfl #[.slice A1 l1.length c1, .int .i64 (rd t154 x13_1)] rfl (by (try simp only [List.map_toArray, List.map_cons, List.map_nil]); first | done | rfl | (simp only [List.length_drop, List.length_take]; rfl)) ?_; (with_reducible refine (spenceref01_In.calls k1 _ _ l1 (rd t154 x13_1) t158 _ ?side1 ?side2 A9.out).mono ?_); (case side1 => repeat (first | exact (Kd.C_below HR1.out HB.out) | (with_reducible refine Kd.C_alloc ?_ _) | (with_reducible refine Kd.C_drewN ?_ _) | (with_reducible refine Kd.C_drew ?_))); (case side2 => exact HC1.out); rintro e w' ⟨rfl, ⟨nd, rfl⟩⟩; refine ⟨_, rfl, ?_⟩; obtain ⟨Ao27, co27, eo27⟩ := Kd.R_slice HO_5.out; subst eo27) | ((with_reducible refine gate_builtin (b := .append) (xs := #[.tmp 51, .tmp 57]) rfl ?_); at_builtin; refine Kd.R_append k50 (w0 := w) w.heap.size rfl (.tmp 51) (.tmp 57) 40 50 (.agg #[(.int .i64 0), (.int .i64 0), (.bool false)]) 24 rfl Tryd.underlying40 info50 rfl (by decide) (by omega) (.slice Ao27 x5_1.length co27) x5_1 (⟨rd t154 x13_1, wrap64 ((rd t154 x13_1) + 1), t158⟩ : S50) [.int .i64 (rd t154 x13_1), .int .i64 (wrap64 ((rd t154 x13_1) + 1)), .bool t158] (fun _ => True) (fun _ => False) rfl rfl ?aP (fun _ hk => hk.elim) ?aF ?aO ?aB ?aS ?aL ?_; (case aP => exact k50_mkM _ _ _ (⟨rd t154 x13_1, wrap64 ((rd t154 x13_1) + 1), t158⟩ : S50)); (case aB => exact (by repeat (first | (with_reducible first | exact HB.out | apply aBl | apply pBd | apply dBl) | exact HB.out))); (case aF => exact (fun _ _ => trivial)); (case aO => exact (by (with_reducible repeat (first | apply Kd.R_alloc | apply Kd.R_drewN | apply Kd.R_drew)); exact HO_5.out)); (case aS => exact (zBl (by repeat (first | (with_reducible first | exact HB.out | apply aBl | apply pBd | apply dBl) | exact HB.out)))); (case aL => have := LMc26.out; omega); intro v169 w28 ho hb hg hat; rw [← Ny168.out] at ho; have n0_ := AsZ.mk (Kd.R_over' (by (with_reducible repeat (first | apply Kd.R_alloc | apply Kd.R_drewN | apply Kd.R_drew)); exact HO_11.out) (Kd.R_typed (by (with_reducible repeat (first | apply Kd.R_alloc | apply Kd.R_drewN | apply Kd.R_drew)); exact HO_5.out)) (by decide) hg); have n1_ := AsZ.mk (hb); have n2_ := AsZ.mk (ho); clear HO_11; clear HB; clear HO_5; have HO_11 := n0_; have HB := n1_; have HO170 := n2_; clear n0_ n1_ n2_; clear ho hb hg hat))
                go_roundg k1
                case measure => have := HK1.out; omega
                case rel => exact ⟨(y168), (wrap64 (x13_1 + 1)), (by first | rfl | (simp; done) | (simp [*]; done)), H', ⟨by have := HK1.out; omega⟩, ⟨by (with_reducible repeat (first | apply Kd.R_alloc | apply Kd.R_drewN | apply Kd.R_drew)); exact HO170.out⟩, ⟨by (with_reducible repeat (first | apply Kd.R_alloc | apply Kd.R_drewN | apply Kd.R_drew)); exact HO_11.out⟩, ⟨by repeat (first | (with_reducible first | exact HB.out | apply aBl | apply pBd | apply dBl) | exact HB.out)⟩⟩
              · rw [if_neg c26] at H
                exact absurd H (by simp)
          · rw [if_neg c8] at H
            exact absurd H (by simp)
        · rw [if_neg c7] at H
          exact absurd H (by simp)
      · rw [if_neg c6] at H
        have c6b0 : decide (x13_1 < (t154.length : Int)) = false := decide_eq_false c6
        clear c6
        obtain rfl := Option.some.inj H
        go_wp2
        go_ret
        exact ⟨_, by first | rfl | (simp [eWn, eWs] <;> rfl) | (simp [*, eWn, eWs] <;> rfl), by (with_reducible repeat (first | apply Kd.R_alloc | apply Kd.R_drewN | apply Kd.R_drew)); exact HO_5.out, by repeat (first | (with_reducible first | exact HB.out | apply aBl | apply pBd | apply dBl) | exact HB.out)⟩
def spenceref24_Runs.l0 : Nat → List (S50) → List (S50) → Int → Int → Option (Bool)
  | 0, _, _, _, _ => none
  | k + 1, x0, x1, x12, x13 => if x13 < x12 then (if 0 ≤ x13 then (if x13 < (x0.length : Int) then (if x13 < (x1.length : Int) then (if (!(((rd_T50 x0 x13).f0) == ((rd_T50 x1 x13).f0)) || (!(((rd_T50 x0 x13).f1) == ((rd_T50 x1 x13).f1)) || (!(((rd_T50 x0 x13).f2) == ((rd_T50 x1 x13).f2))))) = true then (some false) else (spenceref24_Runs.l0 k x0 x1 x12 (wrap64 (x13 + 1)))) else (none)) else (none)) else (none)) else (some true)
def spenceref24_Runs.f (k : Nat) (l0 : List (S50)) (l1 : List (S50)) : Option (Bool) := if (l0.length : Int) = (l1.length : Int) then (spenceref24_Runs.l0 k l0 l1 (l0.length : Int) 0) else (some false)
theorem spenceref24_Runs.mono_l : ∀ k, (∀ y0 y1 y2 y3, LeO (spenceref24_Runs.l0 k y0 y1 y2 y3) (spenceref24_Runs.l0 (k + 1) y0 y1 y2 y3))
  | 0 => fun _ _ _ _ r h => by simp [spenceref24_Runs.l0] at h
  | k + 1 => by
    have ih0 := spenceref24_Runs.mono_l k
    · intro y0 y1 y2 y3
      unfold spenceref24_Runs.l0
      repeat' first
      | (with_reducible exact ih0 _ _ _ _)
      | (with_reducible exact LeO.refl _)
      | (with_reducible exact LeO.none _)
      | (with_reducible refine LeO.ite ?_ ?_)
      | (with_reducible refine LeO.bind ?_ (fun _ => ?_))
      | exact ih0 _ _ _ _
      | exact LeO.none _
      | refine LeO.ite ?_ ?_
      | refine LeO.bind ?_ (fun _ => ?_)
theorem spenceref24_Runs.mono : ∀ a0 a1 k, LeO (spenceref24_Runs.f k a0 a1) (spenceref24_Runs.f (k + 1) a0 a1) := by
  intro a0 a1 k
  have ih0 := spenceref24_Runs.mono_l k
  unfold spenceref24_Runs.f
  repeat' first
      | (with_reducible exact ih0 _ _ _ _)
      | (with_reducible exact LeO.refl _)
      | (with_reducible exact LeO.none _)
      | (with_reducible refine LeO.ite ?_ ?_)
      | (with_reducible refine LeO.bind ?_ (fun _ => ?_))
      | exact ih0 _ _ _ _
      | exact LeO.none _
      | refine LeO.ite ?_ ?_
      | refine LeO.bind ?_ (fun _ => ?_)
set_option maxHeartbeats 8000000 in
set_option maxRecDepth 100000 in
theorem spenceref24_Runs.calls (k : Nat) (A0 : Option Addr) (c0 : Nat) (l0 : List (S50)) (A1 : Option Addr) (c1 : Nat) (l1 : List (S50)) (r : Bool) (w : World) (hr0 : Kd.C k50 w A0 l0.length l0) (hc0 : l0.length ≤ c0) (hr1 : Kd.C k50 w A1 l1.length l1) (hc1 : l1.length ≤ c1) (h : spenceref24_Runs.f k l0 l1 = some r) :
    Calls Tryd.prog 23 #[.slice A0 l0.length c0, .slice A1 l1.length c1] w fun e w' => e = .returned (.bool r) ∧ Drawn0 w w' := by
  have hu50 := Tryd.underlying50
  have HR0 := AsZ.mk hr0
  have HC0 := AsZ.mk hc0
  clear hr0 hc0
  have HR1 := AsZ.mk hr1
  have HC1 := AsZ.mk hc1
  clear hr1 hc1
  have H : (if (l0.length : Int) = (l1.length : Int) then (spenceref24_Runs.l0 k l0 l1 (l0.length : Int) 0) else (some false)) = some r := h
  clear h
  by_cases c3 : (l0.length : Int) = (l1.length : Int)
  · rw [if_pos c3] at H
    have c3b0 : ((l0.length : Int) == (l1.length : Int)) = true := beq_iff_eq.mpr c3
    have c3b1 : ((l0.length : Int) != (l1.length : Int)) = false := bne_eq_false_iff_eq.mpr c3
    have c3b2 : (l0.length == l1.length) = true := by first | simpa using c3 | (simp at c3 ⊢; omega)
    clear c3
    have H' := AsZ.mk H
    clear H
    go_enter Tryd.func23, Tryd.ntmps23
    go_wp2
    repeat (go_quiet (fail); try go_wp2)
    go_loopg [13] k (fun kq v13 w' => ∃ (x13_1 : Int), v13 = .int .i64 x13_1 ∧ AsZ (spenceref24_Runs.l0 kq l0 l1 (l0.length : Int) x13_1 = some r) ∧ AsZ (kq ≤ k) ∧ Drawn0 w w')
    case atStart => exact ⟨(0), (by first | rfl | (simp; done) | (simp [*]; done)), H', ⟨Nat.le_refl _⟩, by repeat (first | exact Drawn0.refl _ | apply Drawn0.step)⟩
    case round =>
      clear H'
      try clear c1
      try clear c2
      try clear p2
      try clear c3
      try clear c3b0
      try clear c3b1
      try clear c3b2
      obtain ⟨x13_1, rfl, HA, HK1, ⟨m1, rfl⟩⟩ := hrel
      cases gk with
      | zero => exact absurd HA.out (by simp [spenceref24_Runs.l0])
      | succ k1 =>
        have H := HA.out
        clear HA
        simp only [spenceref24_Runs.l0] at H
        by_cases c4 : x13_1 < (l0.length : Int)
        · rw [if_pos c4] at H
          have c4b0 : decide (x13_1 < (l0.length : Int)) = true := decide_eq_true c4
          clear c4
          by_cases c5 : 0 ≤ x13_1
          · rw [if_pos c5] at H
            have c5b0 : decide (0 ≤ x13_1) = true := decide_eq_true c5
            clear c5
            by_cases c6 : x13_1 < (l0.length : Int)
            · rw [if_pos c6] at H
              have c6b0 : decide (x13_1 < (l0.length : Int)) = true := decide_eq_true c6
              clear c6
              by_cases c7 : x13_1 < (l1.length : Int)
              · rw [if_pos c7] at H
                have c7b0 : decide (x13_1 < (l1.length : Int)) = true := decide_eq_true c7
                clear c7
                by_cases c8 : (!(((rd_T50 l0 x13_1).f0) == ((rd_T50 l1 x13_1).f0)) || (!(((rd_T50 l0 x13_1).f1) == ((rd_T50 l1 x13_1).f1)) || (!(((rd_T50 l0 x13_1).f2) == ((rd_T50 l1 x13_1).f2))))) = true
                · rw [if_pos c8] at H
                  have c8b0 : (!(((rd_T50 l0 x13_1).f0) == ((rd_T50 l1 x13_1).f0)) || (!(((rd_T50 l0 x13_1).f1) == ((rd_T50 l1 x13_1).f1)) || (!(((rd_T50 l0 x13_1).f2) == ((rd_T50 l1 x13_1).f2))))) = true := c8
                  clear c8
                  obtain rfl := Option.some.inj H
                  have p171 : 0 ≤ (x13_1 : Int) := of_decide_eq_true (by first | (with_reducible assumption) | assumption)
                  have q171 : x13_1 < (l0.length : Int) := of_decide_eq_true (by first | (with_reducible assumption) | assumption)
                  obtain ⟨ad171, e171, hx171_0, hx171_1, hx171_2⟩ := at_T50 HR0.out x13_1 p171 q171
                  cases e171
                  replace p171 := eq_true p171
                  replace q171 := eq_true q171
                  have p172 : 0 ≤ (x13_1 : Int) := of_decide_eq_true (by first | (with_reducible assumption) | assumption)
                  have q172 : x13_1 < (l1.length : Int) := of_decide_eq_true (by first | (with_reducible assumption) | assumption)
                  obtain ⟨ad172, e172, hx172_0, hx172_1, hx172_2⟩ := at_T50 HR1.out x13_1 p172 q172
                  cases e172
                  replace p172 := eq_true p172
                  replace q172 := eq_true q172
                  go_wp2
                  repeat (go_quiet (fail); try go_wp2)
                  go_ret
                  exact ⟨by first | rfl | (simp; done) | (simp [*]; done) | exact nEm _ | exact eEm _, by repeat (first | exact Drawn0.refl _ | apply Drawn0.step)⟩
                · rw [if_neg c8] at H
                  have c8b0 : (!(((rd_T50 l0 x13_1).f0) == ((rd_T50 l1 x13_1).f0)) || (!(((rd_T50 l0 x13_1).f1) == ((rd_T50 l1 x13_1).f1)) || (!(((rd_T50 l0 x13_1).f2) == ((rd_T50 l1 x13_1).f2))))) = false := by simpa using c8
                  clear c8
                  have H' := AsZ.mk H
                  clear H
                  have p171 : 0 ≤ (x13_1 : Int) := of_decide_eq_true (by first | (with_reducible assumption) | assumption)
                  have q171 : x13_1 < (l0.length : Int) := of_decide_eq_true (by first | (with_reducible assumption) | assumption)
                  obtain ⟨ad171, e171, hx171_0, hx171_1, hx171_2⟩ := at_T50 HR0.out x13_1 p171 q171
                  cases e171
                  replace p171 := eq_true p171
                  replace q171 := eq_true q171
                  have p172 : 0 ≤ (x13_1 : Int) := of_decide_eq_true (by first | (with_reducible assumption) | assumption)
                  have q172 : x13_1 < (l1.length : Int) := of_decide_eq_true (by first | (with_reducible assumption) | assumption)
                  obtain ⟨ad172, e172, hx172_0, hx172_1, hx172_2⟩ := at_T50 HR1.out x13_1 p172 q172
                  cases e172
                  replace p172 := eq_true p172
                  replace q172 := eq_true q172
                  go_wp2
                  repeat (go_quiet (fail); try go_wp2)
                  go_roundg k1
                  case measure => have := HK1.out; omega
                  case rel => exact ⟨(wrap64 (x13_1 + 1)), (by first | rfl | (simp; done) | (simp [*]; done)), H', ⟨by have := HK1.out; omega⟩, by repeat (first | exact Drawn0.refl _ | apply Drawn0.step)⟩
              · rw [if_neg c7] at H
                exact absurd H (by simp)
            · rw [if_neg c6] at H
              exact absurd H (by simp)
          · rw [if_neg c5] at H
            exact absurd H (by simp)
        · rw [if_neg c4] at H
          have c4b0 : decide (x13_1 < (l0.length : Int)) = false := decide_eq_false c4
          clear c4
          obtain rfl := Option.some.inj H
          go_wp2
          repeat (go_quiet (fail); try go_wp2)
          go_ret
          exact ⟨by first | rfl | (simp; done) | (simp [*]; done) | exact nEm _ | exact eEm _, by repeat (first | exact Drawn0.refl _ | apply Drawn0.step)⟩
  · rw [if_neg c3] at H
    have c3b0 : ((l0.length : Int) == (l1.length : Int)) = false := beq_eq_false_iff_ne.mpr c3
    have c3b1 : ((l0.length : Int) != (l1.length : Int)) = true := bne_iff_ne.mpr c3
    have c3b2 : (l0.length == l1.length) = false := by first | simpa using c3 | (simp at c3 ⊢; omega)
    obtain rfl := Option.some.inj H
    go_enter Tryd.func23, Tryd.ntmps23
    go_wp2
    repeat (go_quiet (fail); try go_wp2)
    go_ret
    exact ⟨by first | rfl | (simp; done) | (simp [*]; done) | exact nEm _ | exact eEm _, by repeat (first | exact Drawn0.refl _ | apply Drawn0.step)⟩
def runs_Missing.f (l0 : List S50) : Option (List S50) := if l0.length ≤ 1000000 then some (l0.filter (fun r => !r.f2)) else none
theorem runs_Missing.calls (A0 : Option Addr) (c0 : Nat) (l0 : List S50) (r : List S50) (w : World) (hr0 : Kd.C k50 w A0 l0.length l0) (hc0 : l0.length ≤ c0) (h : runs_Missing.f l0 = some r) :
    Calls Tryd.prog 24 #[.slice A0 l0.length c0] w fun e w' => ∃ v0_ : Value, e = .returned (v0_) ∧ Kd.R k50 50 w' w.heap.size (fun _ => True) v0_ r ∧ Below w.heap.size w w' := by
  unfold runs_Missing.f at h
  split at h
  · rename_i hs
    obtain rfl := Option.some.inj h
    exact Ag.missing_calls A0 c0 l0 w hr0 hc0 hs
  · cases h
def spenceref24_Missing.l0 : Nat → List (S50) → List (S50) → Int → Int → Option ((List (S50)))
  | 0, _, _, _, _ => none
  | k + 1, x3, x6, x7, x8 => if x8 < x7 then (if 0 ≤ x8 then (if x8 < (x6.length : Int) then (if ((rd_T50 x6 x8).f2 = true) then (spenceref24_Missing.l0 k x3 x6 x7 (wrap64 (x8 + 1))) else (if x3.length < 5864062014805 then (spenceref24_Missing.l0 k (x3 ++ [(⟨(rd_T50 x6 x8).f0, (rd_T50 x6 x8).f1, (rd_T50 x6 x8).f2⟩ : S50)]) x6 x7 (wrap64 (x8 + 1))) else (none))) else (none)) else (none)) else (some x3)
def spenceref24_Missing.f (k : Nat) (l0 : List (S50)) : Option ((List (S50))) := spenceref24_Missing.l0 k ([] : List (S50)) l0 (l0.length : Int) 0
theorem spenceref24_Missing.mono_l : ∀ k, (∀ y0 y1 y2 y3, LeO (spenceref24_Missing.l0 k y0 y1 y2 y3) (spenceref24_Missing.l0 (k + 1) y0 y1 y2 y3))
  | 0 => fun _ _ _ _ r h => by simp [spenceref24_Missing.l0] at h
  | k + 1 => by
    have ih0 := spenceref24_Missing.mono_l k
    · intro y0 y1 y2 y3
      unfold spenceref24_Missing.l0
      repeat' first
      | (with_reducible exact ih0 _ _ _ _)
      | (with_reducible exact LeO.refl _)
      | (with_reducible exact LeO.none _)
      | (with_reducible refine LeO.ite ?_ ?_)
      | (with_reducible refine LeO.bind ?_ (fun _ => ?_))
      | exact ih0 _ _ _ _
      | exact LeO.none _
      | refine LeO.ite ?_ ?_
      | refine LeO.bind ?_ (fun _ => ?_)
theorem spenceref24_Missing.mono : ∀ a0 k, LeO (spenceref24_Missing.f k a0) (spenceref24_Missing.f (k + 1) a0) := by
  intro a0 k
  have ih0 := spenceref24_Missing.mono_l k
  unfold spenceref24_Missing.f
  repeat' first
      | (with_reducible exact ih0 _ _ _ _)
      | (with_reducible exact LeO.refl _)
      | (with_reducible exact LeO.none _)
      | (with_reducible refine LeO.ite ?_ ?_)
      | (with_reducible refine LeO.bind ?_ (fun _ => ?_))
      | exact ih0 _ _ _ _
      | exact LeO.none _
      | refine LeO.ite ?_ ?_
      | refine LeO.bind ?_ (fun _ => ?_)
set_option maxHeartbeats 8000000 in
set_option maxRecDepth 100000 in
theorem spenceref24_Missing.calls (k : Nat) (A0 : Option Addr) (c0 : Nat) (l0 : List (S50)) (r : List (S50)) (w : World) (hr0 : Kd.C k50 w A0 l0.length l0) (hc0 : l0.length ≤ c0) (h : spenceref24_Missing.f k l0 = some r) :
    Calls Tryd.prog 25 #[.slice A0 l0.length c0] w fun e w' => ∃ v0_ : Value, e = .returned (v0_) ∧ Kd.R k50 50 w' w.heap.size (fun _ => True) v0_ r ∧ Below w.heap.size w w' := by
  have hu50 := Tryd.underlying50
  have HR0 := AsZ.mk hr0
  have HC0 := AsZ.mk hc0
  clear hr0 hc0
  have HB := AsZ.mk (Below.refl w.heap.size w)
  have H : (spenceref24_Missing.l0 k ([] : List (S50)) l0 (l0.length : Int) 0) = some r := h
  clear h
  have H' := AsZ.mk H
  clear H
  go_enter Tryd.func25, Tryd.ntmps25
  go_wp2
  go_loopg [3, 8] k (fun kq v3 v8 w' => ∃ (x3_1 : List (S50)) (x8_1 : Int), v8 = .int .i64 x8_1 ∧ AsZ (spenceref24_Missing.l0 kq x3_1 l0 (l0.length : Int) x8_1 = some r) ∧ AsZ (kq ≤ k) ∧ AsZ (Kd.R k50 50 w' w.heap.size (fun _ => True) v3 x3_1) ∧ AsZ (Below w.heap.size w w'))
  case atStart => exact ⟨(([] : List (S50))), (0), (by first | rfl | (simp; done) | (simp [*]; done)), H', ⟨Nat.le_refl _⟩, ⟨by first | exact Kd.R_nil _ _ _ _ _ | exact Kd.N_nil _ _ _ _ _ | exact Kd.V_nil _ _ _ _ _ | exact Kd.Q_nil _ _ _ _ _ | exact Kd.S_nil _ _ _ _ _⟩, ⟨by repeat (first | (with_reducible first | exact HB.out | apply aBl | apply pBd | apply dBl) | exact HB.out)⟩⟩
  case round =>
    clear H'
    obtain ⟨x3_1, x8_1, rfl, HA, HK1, HO_3, HB⟩ := hrel
    cases gk with
    | zero => exact absurd HA.out (by simp [spenceref24_Missing.l0])
    | succ k1 =>
      have H := HA.out
      clear HA
      simp only [spenceref24_Missing.l0] at H
      by_cases c2 : x8_1 < (l0.length : Int)
      · rw [if_pos c2] at H
        have c2b0 : decide (x8_1 < (l0.length : Int)) = true := decide_eq_true c2
        clear c2
        by_cases c3 : 0 ≤ x8_1
        · rw [if_pos c3] at H
          have c3b0 : decide (0 ≤ x8_1) = true := decide_eq_true c3
          clear c3
          by_cases c4 : x8_1 < (l0.length : Int)
          · rw [if_pos c4] at H
            have c4b0 : decide (x8_1 < (l0.length : Int)) = true := decide_eq_true c4
            clear c4
            obtain ⟨bq5, hbq5⟩ : ∃ b_ : Bool, b_ = ((rd_T50 l0 x8_1).f2) := ⟨_, rfl⟩
            replace H : (if (bq5 = true) then (spenceref24_Missing.l0 k1 x3_1 l0 (l0.length : Int) (wrap64 (x8_1 + 1))) else (if x3_1.length < 5864062014805 then (spenceref24_Missing.l0 k1 (x3_1 ++ [(⟨(rd_T50 l0 x8_1).f0, (rd_T50 l0 x8_1).f1, bq5⟩ : S50)]) l0 (l0.length : Int) (wrap64 (x8_1 + 1))) else (none))) = some r := by rw [← hbq5] at H; exact H
            have Nbq5 := AsZ.mk hbq5
            clear hbq5
            by_cases c6 : (bq5 = true)
            · subst c6
              have H1 : (spenceref24_Missing.l0 k1 x3_1 l0 (l0.length : Int) (wrap64 (x8_1 + 1))) = some r := by rw [if_pos rfl] at H; exact H
              clear H
              have H := H1
              clear H1
              have H' := AsZ.mk H
              clear H
              have p174 : 0 ≤ (x8_1 : Int) := of_decide_eq_true (by first | (with_reducible assumption) | assumption)
              have q174 : x8_1 < (l0.length : Int) := of_decide_eq_true (by first | (with_reducible assumption) | assumption)
              obtain ⟨ad174, e174, hx174_0, hx174_1, hx174_2⟩ := at_T50 HR0.out x8_1 p174 q174
              (try rw [← Nbq5.out] at hx174_2)
              cases e174
              replace hx174_0 := (HB.out.cell (World.block_lt_of_cell? w _ hx174_0)).trans hx174_0
              replace hx174_1 := (HB.out.cell (World.block_lt_of_cell? w _ hx174_1)).trans hx174_1
              replace hx174_2 := (HB.out.cell (World.block_lt_of_cell? w _ hx174_2)).trans hx174_2
              replace p174 := eq_true p174
              replace q174 := eq_true q174
              go_wp2_with (first | ((with_reducible refine gDs (N := 5) rfl ?_); refine bEv ?hg (N := 5) ?hd (cs := #[.int .i64 0, .int .i64 0, .bool false]) (t := 50) ?hr ?_; (case hd => rfl); (case hg => rfl); (case hr => first | (go_simp; done) | (go_simp; rfl)); intro gb175 hg w7 hbox hb; have n0_ := AsZ.mk (Kd.R_below (Kd.R_elderB (by (with_reducible repeat (first | apply Kd.R_alloc | apply Kd.R_drewN | apply Kd.R_drew)); exact HO_3.out) gb175 (Nat.le_of_eq hg.symm)) hb); have n1_ := AsZ.mk (tBl (by repeat (first | (with_reducible first | exact HB.out | apply aBl | apply pBd | apply dBl) | exact HB.out)) hb); have n2_ := AsZ.mk (hbox); have n3_ := AsZ.mk ((by rw [hg]; exact (zBl (by repeat (first | (with_reducible first | exact HB.out | apply aBl | apply pBd | apply dBl) | exact HB.out))) : w.heap.size ≤ gb175)); have n4_ := AsZ.mk ((by rw [hg]; exact (zBl (by repeat (first | (with_reducible first | exact HB.out | apply aBl | apply pBd | apply dBl) | exact HB.out))) : w.heap.size ≤ gb175)); clear HO_3; clear HB; have HO_3 := n0_; have HB := n1_; have BK175 := n2_; have GW175 := n3_; have GE175 := n4_; clear n0_ n1_ n2_ n3_ n4_; clear hb hbox hg; obtain ⟨hcz8_0, hcz8_1, hcz8_2⟩ := celN3 BK175.out; obtain ⟨hfz8_0, hfz8_1, hfz8_2⟩ := fzN3 BK175.out))
              go_roundg k1
              case measure => have := HK1.out; omega
              case rel => exact ⟨(x3_1), (wrap64 (x8_1 + 1)), (by first | rfl | (simp; done) | (simp [*]; done)), H', ⟨by have := HK1.out; omega⟩, ⟨by (with_reducible repeat (first | apply Kd.R_alloc | apply Kd.R_drewN | apply Kd.R_drew)); exact Kd.R_mono (Kd.R_far (p := ⟨gb175, 2, none⟩) (Kd.R_far (p := ⟨gb175, 1, none⟩) (Kd.R_far (p := ⟨gb175, 0, none⟩) (Kd.R_mono HO_3.out (fun k_ hk => (⟨hk, hk.2⟩ : _ ∧ k_ ≠ gb175))) (fun _ hk => hk.2) (.int .i64 ((rd_T50 l0 x8_1).f0))) (fun _ hk => hk.2) (.int .i64 ((rd_T50 l0 x8_1).f1))) (fun _ hk => hk.2) (.bool true)) (fun _ hk => trivial)⟩, ⟨by repeat (first | (with_reducible first | exact HB.out | apply aBl | apply pBd | apply dBl | refine sBl ?_ GE175.out) | exact HB.out)⟩⟩
            · replace c6 := Bool.eq_false_iff.mpr c6
              subst c6
              have H1 : (if x3_1.length < 5864062014805 then (spenceref24_Missing.l0 k1 (x3_1 ++ [(⟨(rd_T50 l0 x8_1).f0, (rd_T50 l0 x8_1).f1, false⟩ : S50)]) l0 (l0.length : Int) (wrap64 (x8_1 + 1))) else (none)) = some r := by rw [if_neg (show ¬ (false = true) by decide)] at H; exact H
              clear H
              have H := H1
              clear H1
              by_cases c9 : x3_1.length < 5864062014805
              · rw [if_pos c9] at H
                have LMc9 := AsZ.mk c9
                clear c9
                obtain ⟨y176, hy176⟩ : ∃ y_ : List (S50), y_ = (x3_1 ++ [(⟨(rd_T50 l0 x8_1).f0, (rd_T50 l0 x8_1).f1, false⟩ : S50)]) := ⟨_, rfl⟩
                replace H : (spenceref24_Missing.l0 k1 y176 l0 (l0.length : Int) (wrap64 (x8_1 + 1))) = some r := by first | (rw [hy176]; with_reducible exact H) | (have H2_ := (Option.bind_some _ _).symm.trans H; rw [hy176]; with_reducible exact H2_) | (have H2_ := (Option.bind_some _ _).symm.trans H; with_reducible exact H2_) | with_reducible exact H | (rw [hy176]; exact H) | exact H
                have Ny176 := AsZ.mk hy176
                clear hy176
                have H' := AsZ.mk H
                clear H
                have p174 : 0 ≤ (x8_1 : Int) := of_decide_eq_true (by first | (with_reducible assumption) | assumption)
                have q174 : x8_1 < (l0.length : Int) := of_decide_eq_true (by first | (with_reducible assumption) | assumption)
                obtain ⟨ad174, e174, hx174_0, hx174_1, hx174_2⟩ := at_T50 HR0.out x8_1 p174 q174
                (try rw [← Nbq5.out] at hx174_2)
                cases e174
                replace hx174_0 := (HB.out.cell (World.block_lt_of_cell? w _ hx174_0)).trans hx174_0
                replace hx174_1 := (HB.out.cell (World.block_lt_of_cell? w _ hx174_1)).trans hx174_1
                replace hx174_2 := (HB.out.cell (World.block_lt_of_cell? w _ hx174_2)).trans hx174_2
                replace p174 := eq_true p174
                replace q174 := eq_true q174
                go_wp2_with (first | ((with_reducible refine gDs (N := 5) rfl ?_); refine bEv ?hg (N := 5) ?hd (cs := #[.int .i64 0, .int .i64 0, .bool false]) (t := 50) ?hr ?_; (case hd => rfl); (case hg => rfl); (case hr => first | (go_simp; done) | (go_simp; rfl)); intro gb175 hg w10 hbox hb; have n0_ := AsZ.mk (Kd.R_below (Kd.R_elderB (by (with_reducible repeat (first | apply Kd.R_alloc | apply Kd.R_drewN | apply Kd.R_drew)); exact HO_3.out) gb175 (Nat.le_of_eq hg.symm)) hb); have n1_ := AsZ.mk (tBl (by repeat (first | (with_reducible first | exact HB.out | apply aBl | apply pBd | apply dBl) | exact HB.out)) hb); have n2_ := AsZ.mk (hbox); have n3_ := AsZ.mk ((by rw [hg]; exact (zBl (by repeat (first | (with_reducible first | exact HB.out | apply aBl | apply pBd | apply dBl) | exact HB.out))) : w.heap.size ≤ gb175)); have n4_ := AsZ.mk ((by rw [hg]; exact (zBl (by repeat (first | (with_reducible first | exact HB.out | apply aBl | apply pBd | apply dBl) | exact HB.out))) : w.heap.size ≤ gb175)); clear HO_3; clear HB; have HO_3 := n0_; have HB := n1_; have BK175 := n2_; have GW175 := n3_; have GE175 := n4_; clear n0_ n1_ n2_ n3_ n4_; clear hb hbox hg; obtain ⟨hcz11_0, hcz11_1, hcz11_2⟩ := celN3 BK175.out; obtain ⟨hfz11_0, hfz11_1, hfz11_2⟩ := fzN3 BK175.out) | ((with_reducible refine gate_builtin (b := .append) (xs := #[.tmp 15, .tmp 17]) rfl ?_); at_builtin; refine Kd.R_append k50 (w0 := w) w.heap.size rfl (.tmp 15) (.tmp 17) 40 50 (.agg #[(.int .i64 0), (.int .i64 0), (.bool false)]) 24 rfl Tryd.underlying40 info50 rfl (by decide) (by omega) u3 x3_1 (⟨(rd_T50 l0 x8_1).f0, (rd_T50 l0 x8_1).f1, false⟩ : S50) [.int .i64 ((rd_T50 l0 x8_1).f0), .int .i64 ((rd_T50 l0 x8_1).f1), .bool false] (fun k_ => k_ ≠ gb175) (fun _ => False) rfl (by first | (go_simp; done) | (go_simp; rfl)) ?aP (fun _ hk => hk.elim) ?aF ?aO ?aB ?aS ?aL ?_; (case aP => exact k50_mkM _ _ _ (⟨(rd_T50 l0 x8_1).f0, (rd_T50 l0 x8_1).f1, false⟩ : S50)); (case aB => exact (by repeat (first | (with_reducible first | exact HB.out | apply aBl | apply pBd | apply dBl | refine sBl ?_ GE175.out) | exact HB.out))); (case aF => exact (fun k_ hk => Kd.freshB (g := gb175) (o := .cells #[.int .i64 ((rd_T50 l0 x8_1).f0), .int .i64 ((rd_T50 l0 x8_1).f1), .bool false] 50 (0, 0)) (by (with_reducible repeat first | apply bDn | apply bDr | apply bAl); refine bPu (cs := #[.int .i64 ((rd_T50 l0 x8_1).f0), .int .i64 ((rd_T50 l0 x8_1).f1), .bool false]) ?_ 2 _ rfl; (with_reducible repeat first | apply bDn | apply bDr | apply bAl); refine bPu (cs := #[.int .i64 ((rd_T50 l0 x8_1).f0), .int .i64 0, .bool false]) ?_ 1 _ rfl; (with_reducible repeat first | apply bDn | apply bDr | apply bAl); refine bPu (cs := #[.int .i64 0, .int .i64 0, .bool false]) ?_ 0 _ rfl; (with_reducible repeat first | apply bDn | apply bDr | apply bAl); exact BK175.out) k_ hk)); (case aO => exact (by (with_reducible repeat (first | apply Kd.R_alloc | apply Kd.R_drewN | apply Kd.R_drew)); exact Kd.R_mono (Kd.R_far (p := ⟨gb175, 2, none⟩) (Kd.R_far (p := ⟨gb175, 1, none⟩) (Kd.R_far (p := ⟨gb175, 0, none⟩) (Kd.R_mono HO_3.out (fun k_ hk => (⟨hk, hk.2⟩ : _ ∧ k_ ≠ gb175))) (fun _ hk => hk.2) (.int .i64 ((rd_T50 l0 x8_1).f0))) (fun _ hk => hk.2) (.int .i64 ((rd_T50 l0 x8_1).f1))) (fun _ hk => hk.2) (.bool false)) (fun _ hk => hk.1.2))); (case aS => exact (zBl (by repeat (first | (with_reducible first | exact HB.out | apply aBl | apply pBd | apply dBl | refine sBl ?_ GE175.out) | exact HB.out)))); (case aL => have := LMc9.out; omega); intro v177 w12 ho hb hg hat; rw [← Ny176.out] at ho; have n0_ := AsZ.mk (blk_grown (g := gb175) (o := .cells #[.int .i64 ((rd_T50 l0 x8_1).f0), .int .i64 ((rd_T50 l0 x8_1).f1), .bool false] 50 (0, 0)) (by (with_reducible repeat first | apply bDn | apply bDr | apply bAl); refine bPu (cs := #[.int .i64 ((rd_T50 l0 x8_1).f0), .int .i64 ((rd_T50 l0 x8_1).f1), .bool false]) ?_ 2 _ rfl; (with_reducible repeat first | apply bDn | apply bDr | apply bAl); refine bPu (cs := #[.int .i64 ((rd_T50 l0 x8_1).f0), .int .i64 0, .bool false]) ?_ 1 _ rfl; (with_reducible repeat first | apply bDn | apply bDr | apply bAl); refine bPu (cs := #[.int .i64 0, .int .i64 0, .bool false]) ?_ 0 _ rfl; (with_reducible repeat first | apply bDn | apply bDr | apply bAl); exact BK175.out) hg (Kd.R_away HO_3.out (fun _ hk => hk.2))); have n1_ := AsZ.mk (hb); have n2_ := AsZ.mk (ho); clear BK175; clear HB; clear HO_3; have BK175 := n0_; have HB := n1_; have HO178 := n2_; clear n0_ n1_ n2_; clear ho hb hg hat))
                go_roundg k1
                case measure => have := HK1.out; omega
                case rel => exact ⟨(y176), (wrap64 (x8_1 + 1)), (by first | rfl | (simp; done) | (simp [*]; done)), H', ⟨by have := HK1.out; omega⟩, ⟨by (with_reducible repeat (first | apply Kd.R_alloc | apply Kd.R_drewN | apply Kd.R_drew)); exact Kd.R_mono HO178.out (fun _ hk => trivial)⟩, ⟨by repeat (first | (with_reducible first | exact HB.out | apply aBl | apply pBd | apply dBl | refine sBl ?_ GE175.out) | exact HB.out)⟩⟩
              · rw [if_neg c9] at H
                exact absurd H (by simp)
          · rw [if_neg c4] at H
            exact absurd H (by simp)
        · rw [if_neg c3] at H
          exact absurd H (by simp)
      · rw [if_neg c2] at H
        have c2b0 : decide (x8_1 < (l0.length : Int)) = false := decide_eq_false c2
        clear c2
        obtain rfl := Option.some.inj H
        go_wp2
        go_ret
        exact ⟨_, by first | rfl | (simp [eWn, eWs] <;> rfl) | (simp [*, eWn, eWs] <;> rfl), by (with_reducible repeat (first | apply Kd.R_alloc | apply Kd.R_drewN | apply Kd.R_drew)); exact HO_3.out, by repeat (first | (with_reducible first | exact HB.out | apply aBl | apply pBd | apply dBl) | exact HB.out)⟩
def runs_bounds.f (a0_0 : Int) (a0_1 : Int) (a0_2 : Bool) : Option (Int × Int) := some (mx a0_0 0, mn a0_1 4097)
set_option maxHeartbeats 8000000 in
set_option maxRecDepth 100000 in
theorem runs_bounds.calls (a0_0 : Int) (a0_1 : Int) (a0_2 : Bool) (r1 : Int) (r2 : Int) (w : World) (h : runs_bounds.f a0_0 a0_1 a0_2 = some (r1, r2)) :
    Calls Tryd.prog 50 #[.agg #[.int .i64 a0_0, .int .i64 a0_1, .bool a0_2]] w fun e w' => e = .returned (.tuple #[.int .i64 r1, .int .i64 r2]) ∧ Below w.heap.size w w' := by
  have hu50 := Tryd.underlying50
  have HB := AsZ.mk (Below.refl w.heap.size w)
  have H : (some (mx a0_0 0, mn a0_1 4097)) = some (r1, r2) := h
  clear h
  obtain ⟨ji2, hji2⟩ : ∃ j_ : Int, (mx a0_0 0) = j_ := ⟨_, rfl⟩
  replace H : (some (ji2, mn a0_1 4097)) = some (r1, r2) := by first | (rw [hji2] at H; exact H) | (simp only [hji2] at H ⊢; exact H)
  (try (have hji2l : 0 ≤ ji2 := by (rw [← hji2]; unfold mx; (repeat' split) <;> omega)))
  (try (have hji2m : 0 ≤ ji2 := by omega))
  have hji2_ : (if a0_0 < 0 then 0 else a0_0) = ji2 := hji2
  obtain ⟨ji3, hji3⟩ : ∃ j_ : Int, (mn a0_1 4097) = j_ := ⟨_, rfl⟩
  replace H : (some (ji2, ji3)) = some (r1, r2) := by first | (rw [hji3] at H; exact H) | (simp only [hji3] at H ⊢; exact H)
  (try (have hji3h : ji3 ≤ 4097 := by (rw [← hji3]; unfold mn; (repeat' split) <;> omega)))
  (try (have hji3g : ji3 ≤ 64 := by omega))
  have hji3_ : (if 4097 < a0_1 then 4097 else a0_1) = ji3 := hji3
  simp only [Option.some.injEq, Prod.mk.injEq] at H
  obtain ⟨rfl, rfl⟩ := H
  go_enter Tryd.func50, Tryd.ntmps50
  go_wp2_with (first | ((with_reducible refine gDs (N := 1) rfl ?_); refine bEv ?hg (N := 1) ?hd (cs := #[.int .i64 a0_0, .int .i64 a0_1, .bool a0_2]) (t := 50) ?hr ?_; (case hd => rfl); (case hg => rfl); (case hr => first | (go_simp; done) | (go_simp; rfl)); intro gb179 hg w4 hbox hb; have n0_ := AsZ.mk (tBl (by repeat (first | (with_reducible first | exact HB.out | apply aBl | apply pBd | apply dBl) | exact HB.out)) hb); have n1_ := AsZ.mk (hbox); have n2_ := AsZ.mk ((by rw [hg]; exact (zBl (by repeat (first | (with_reducible first | exact HB.out | apply aBl | apply pBd | apply dBl) | exact HB.out))) : w.heap.size ≤ gb179)); have n3_ := AsZ.mk ((by rw [hg]; exact (zBl (by repeat (first | (with_reducible first | exact HB.out | apply aBl | apply pBd | apply dBl) | exact HB.out))) : w.heap.size ≤ gb179)); clear HB; have HB := n0_; have BK179 := n1_; have GW179 := n2_; have GE179 := n3_; clear n0_ n1_ n2_ n3_; clear hb hbox hg; obtain ⟨hcz5_0, hcz5_1, hcz5_2⟩ := celN3 BK179.out; obtain ⟨hfz5_0, hfz5_1, hfz5_2⟩ := fzN3 BK179.out))
  repeat (go_quiet (first | ((with_reducible refine gDs (N := 1) rfl ?_); refine bEv ?hg (N := 1) ?hd (cs := #[.int .i64 a0_0, .int .i64 a0_1, .bool a0_2]) (t := 50) ?hr ?_; (case hd => rfl); (case hg => rfl); (case hr => first | (go_simp; done) | (go_simp; rfl)); intro gb179 hg w4 hbox hb; have n0_ := AsZ.mk (tBl (by repeat (first | (with_reducible first | exact HB.out | apply aBl | apply pBd | apply dBl) | exact HB.out)) hb); have n1_ := AsZ.mk (hbox); have n2_ := AsZ.mk ((by rw [hg]; exact (zBl (by repeat (first | (with_reducible first | exact HB.out | apply aBl | apply pBd | apply dBl) | exact HB.out))) : w.heap.size ≤ gb179)); have n3_ := AsZ.mk ((by rw [hg]; exact (zBl (by repeat (first | (with_reducible first | exact HB.out | apply aBl | apply pBd | apply dBl) | exact HB.out))) : w.heap.size ≤ gb179)); clear HB; have HB := n0_; have BK179 := n1_; have GW179 := n2_; have GE179 := n3_; clear n0_ n1_ n2_ n3_; clear hb hbox hg; obtain ⟨hcz5_0, hcz5_1, hcz5_2⟩ := celN3 BK179.out; obtain ⟨hfz5_0, hfz5_1, hfz5_2⟩ := fzN3 BK179.out)); try go_wp2_with (first | ((with_reducible refine gDs (N := 1) rfl ?_); refine bEv ?hg (N := 1) ?hd (cs := #[.int .i64 a0_0, .int .i64 a0_1, .bool a0_2]) (t := 50) ?hr ?_; (case hd => rfl); (case hg => rfl); (case hr => first | (go_simp; done) | (go_simp; rfl)); intro gb179 hg w4 hbox hb; have n0_ := AsZ.mk (tBl (by repeat (first | (with_reducible first | exact HB.out | apply aBl | apply pBd | apply dBl) | exact HB.out)) hb); have n1_ := AsZ.mk (hbox); have n2_ := AsZ.mk ((by rw [hg]; exact (zBl (by repeat (first | (with_reducible first | exact HB.out | apply aBl | apply pBd | apply dBl) | exact HB.out))) : w.heap.size ≤ gb179)); have n3_ := AsZ.mk ((by rw [hg]; exact (zBl (by repeat (first | (with_reducible first | exact HB.out | apply aBl | apply pBd | apply dBl) | exact HB.out))) : w.heap.size ≤ gb179)); clear HB; have HB := n0_; have BK179 := n1_; have GW179 := n2_; have GE179 := n3_; clear n0_ n1_ n2_ n3_; clear hb hbox hg; obtain ⟨hcz5_0, hcz5_1, hcz5_2⟩ := celN3 BK179.out; obtain ⟨hfz5_0, hfz5_1, hfz5_2⟩ := fzN3 BK179.out)))
  go_ret2
  exact ⟨by first | rfl | exact nEm _ | exact eEm _ | (simp [eWn, eWs] <;> rfl) | (simp only [← hji2, ← hji3]; first | rfl | (simp [eWn, eWs] <;> rfl)) | (simp [*, eWn, eWs] <;> rfl), by repeat (first | (with_reducible first | exact HB.out | apply aBl | apply pBd | apply dBl | refine sBl ?_ GE179.out) | exact HB.out)⟩
end Go.Proofs.YtcnlmpjoghogbaaDoor.PAll
