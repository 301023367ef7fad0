/- What the law OriginDoes leans on (part 2 of 7): Go functions as plain functions, that the code comes to them, and what these answer. -/
import Derived.Test.YtpphnjmppkbpbaaKOriginDoes0
import Derived.WalkKit
import Derived.ProofKit
import Derived.OpenShut
import Derived.ShutString
import Derived.ChangeOld
import Derived.Below
import Derived.SizedLaws
import Derived.Lib.SmallJoins
import Derived.Lib.Bytealg
import Derived.Laws.StandIn
import Derived.Lib.ConvBytes
import Derived.Laws.BytesArg
import Derived.Test.YtpphnjmppkbpbaaProg
import Derived.WalkMore
import Derived.Laws.Cover1
import Derived.LoopTactic
import Derived.Lib.Hide
import Derived.Lib.SliceRun
import Derived.Deep.Draws
import Derived.Deep.AppendLies
import Derived.Maps.AppendAt
import Derived.OwnWalk
import Derived.Laws.MakeOwn
import Derived.Laws.OwnMore
import Derived.Deep.OwnRows
import Derived.Tactics
import Derived.Laws.Slices
import Derived.KernelRfl
import Derived.RowKit3
import Derived.Deep.LoopGhost
import Derived.Deep.QuietTactic
import Derived.BigQuiet
import Derived.WideLaws
import Derived.Deep.DeepCutAuto
import Derived.Deep.CutBlock
import Derived.Deep.RegionHeld3
import Derived.Laws.Rows
import Derived.Lib.AppendStr
import Derived.ArgAppend
import Derived.Laws.IdiomCopy
import Derived.OrdersHeld
import Derived.Laws.BitsLemmas
import Derived.RowKit
namespace Go.Proofs.Ytpphnjmppkbpbaa.Rd
open Go.RowKit Go.ChangeShapes Go.WideShapes Go.ChangeAt Go.Proofs.YtpphnjmppkbpbaaW.PrintWords
set_option linter.unusedVariables false
set_option linter.unusedSimpArgs false
def Opens {α : Type} (P : Program) (t : TypeId) (d : Kd α) (ok : α → Prop) : Prop :=
  ∀ (H : Type) (enc : TypeId × Value → H) (W : World) (spare : Nat → Bool) (held : Bool) (fuel : Nat) (cs : List Value) (x : DataW H × List MemPlace),
    DataW.trod enc P W 0 spare held fuel t cs = some x → ∃ a, d.K W a cs ∧ ok a
def OpensF {α : Type} (P : Program) (o : Nat) (l : List Field) (d : Kd α) (ok : α → Prop) : Prop :=
  ∀ (H : Type) (enc : TypeId × Value → H) (W : World) (spare : Nat → Bool) (held : Bool) (fuel : Nat) (cs : List Value),
    (∀ f ∈ l, ∃ x, DataW.trod enc P W 0 spare held fuel f.type ((cs.drop f.offset).take (P.cellsOf f.type)) = some x) → ∃ a, d.K W a ((cs.drop o).take d.sz) ∧ ok a
section
variable {P : Program} {t e : TypeId} {α β : Type}
theorem opens_int {k : IntKind} (hu : P.underlying t = some (.int k)) : Opens P t (Kd.int k) (fun n => (Lit.int k n).wf = true) := by
  intro H enc W spare held fuel cs x h
  obtain ⟨n, rfl, _, hw⟩ := DataW.trod_int hu h
  exact ⟨n, rfl, hw⟩
theorem opens_bool (hu : P.underlying t = some .bool) : Opens P t Kd.bool (fun _ => True) := by
  intro H enc W spare held fuel cs x h
  obtain ⟨n, rfl, _⟩ := DataW.trod_bool hu h
  exact ⟨n, rfl, trivial⟩
theorem opens_string (hu : P.underlying t = some .string) : Opens P t Kd.string (fun s => s.size ≤ maxLen) := by
  intro H enc W spare held fuel cs x h
  obtain ⟨n, rfl, _, hw⟩ := DataW.trod_string hu h
  exact ⟨n, rfl, hw⟩
theorem opensF_one {f : Field} {o : Nat} {d : Kd α} {ok : α → Prop} (h : Opens P f.type d ok) (ho : f.offset = o) (hs : P.cellsOf f.type = d.sz) : OpensF P o [f] d ok := by
  intro H enc W spare held fuel cs hf
  obtain ⟨x, hx⟩ := hf f (by simp)
  rw [ho, hs] at hx
  exact h H enc W spare held fuel _ x hx
theorem opensF_cons {f : Field} {l : List Field} {o o' : Nat} {a : Kd α} {b : Kd β} {oka : α → Prop} {okb : β → Prop} (h : Opens P f.type a oka) (ho : f.offset = o) (hs : P.cellsOf f.type = a.sz)
    (ho' : o' = o + a.sz) (hl : OpensF P o' l b okb) : OpensF P o (f :: l) (Kd.pair a b) (fun x => oka x.1 ∧ okb x.2) := by
  intro H enc W spare held fuel cs hf
  subst ho'
  obtain ⟨x, hx⟩ := hf f (by simp)
  rw [ho, hs] at hx
  obtain ⟨p, hp, hop⟩ := h H enc W spare held fuel _ x hx
  obtain ⟨q, hq, hoq⟩ := hl H enc W spare held fuel cs (fun g hg => hf g (by simp [hg]))
  refine ⟨(p, q), ⟨_, _, ?_, hp, hq⟩, hop, hoq⟩
  show (cs.drop o).take (a.sz + b.sz) = _
  rw [List.take_add, List.drop_drop]
theorem opens_struct {fs : Array Field} {d : Kd α} {ok : α → Prop} (hu : P.underlying t = some (.struct fs)) (hF : OpensF P 0 fs.toList d ok) (hc : P.cellsOf t = d.sz) (f : β → α) (g : α → β) (hfg : ∀ a, f (g a) = a) :
    Opens P t (Kd.iso d f) (fun x => ok (f x)) := by
  intro H enc W spare held fuel cs x h
  obtain ⟨xs, n, rfl, rfl, hl, hlen, hf⟩ := DataW.trod_struct hu h
  obtain ⟨a, ha, hok⟩ := hF H enc W spare held n cs (fun q hq => by
    obtain ⟨i, hi, rfl⟩ := List.mem_iff_getElem.1 hq
    have hi' : i < xs.length := by rw [hlen]; simpa using hi
    refine ⟨xs[i], ?_⟩
    have := hf i fs.toList[i] (by simp)
    rw [this, List.getElem?_eq_getElem hi'])
  refine ⟨g a, ?_, by show ok (f (g a)); rw [hfg]; exact hok⟩
  show d.K W (f (g a)) cs
  rw [hfg]
  simpa [← hc, ← hl] using ha
theorem listed (Q : Nat → α → Prop) : ∀ n, (∀ i, i < n → ∃ a, Q i a) → ∃ l : List α, l.length = n ∧ ∀ i a, l[i]? = some a → Q i a
  | 0, _ => ⟨[], rfl, fun i a h => by simp at h⟩
  | n + 1, h => by
    obtain ⟨l, hl, hq⟩ := listed Q n (fun i hi => h i (by omega))
    obtain ⟨a, ha⟩ := h n (by omega)
    refine ⟨l ++ [a], by simp [hl], fun i b hb => ?_⟩
    by_cases hi : i < l.length
    · rw [List.getElem?_append_left hi] at hb
      exact hq i b hb
    · have : i < (l ++ [a]).length := (List.getElem?_eq_some_iff.1 hb).1
      have hi2 : i = l.length := by simp at this; omega
      subst hi2
      simp at hb
      subst hb
      rw [hl]; exact ha
/-- A slice, opened: its elements are of the kind. -/
theorem open_elems {H : Type} {enc : TypeId × Value → H} {W : World} {spare : Nat → Bool} {held : Bool} {fuel : Nat} {cs : List Value} {x : DataW H × List MemPlace} {d : Kd α} {ok : α → Prop}
    (hu : P.underlying t = some (.slice e)) (he : Opens P e d ok) (hc : P.cellsOf e = d.sz) (h : DataW.trod enc P W 0 spare held fuel t cs = some x) :
    ∃ A c, ∃ l : List α, cs = [.slice A l.length c] ∧ l.length ≤ c ∧ d.C W A l.length l ∧ (∀ y ∈ l, ok y) ∧
      (l = [] ∨ ∃ elems rest, x.1 = .slice elems rest ∧ elems.length = l.length) := by
  rcases DataW.trod_slice hu h with ⟨rfl, rfl⟩ | ⟨a, len, cap, elems, rest, n, rfl, rfl, rfl, hb, hl, hm, hlen, hel, _⟩
  · exact ⟨none, 0, [], rfl, Nat.le_refl _, ⟨rfl, by simp, fun h => by simp at h⟩, by simp, .inl rfl⟩
  · obtain ⟨l, hll, hq⟩ := listed (fun i y => ok y ∧ ∃ c, W.cells? 0 (a.add (i * d.sz)) d.sz = some c ∧ d.K W y c) len (fun i hi => by
      have h1 := hel i hi
      have hi' : i < elems.length := by omega
      rw [List.getElem?_eq_getElem hi', hc] at h1
      obtain ⟨c, hc1, hc2⟩ := Option.bind_eq_some_iff.1 h1
      obtain ⟨y, hy, hoy⟩ := he H enc W spare held n c _ hc2
      exact ⟨y, hoy, c, hc1, hy⟩)
    subst hll
    refine ⟨some a, cap, l, rfl, hl, ⟨rfl, by unfold maxLen at hm; omega, fun _ => ⟨a, rfl, fun j p hj => ?_⟩⟩, fun y hy => ?_, .inr ⟨_, _, rfl, by simpa using hlen⟩⟩
    · obtain ⟨_, c, hc1, hk⟩ := hq j p hj
      obtain ⟨_, hcl, hcell⟩ := World.cells?_some hc1
      refine ⟨c, hcl, hk, fun i u hu => ?_⟩
      rw [← Addr.add_add]
      have hi : i < d.sz := by rw [← hcl]; exact (List.getElem?_eq_some_iff.1 hu).1
      rw [hcell i hi]
      exact hu
    · obtain ⟨i, hi⟩ := List.mem_iff_getElem?.1 hy
      exact (hq i y hi).1
/-- A parameter that is a slice. -/
theorem open_row {H : Type} {enc : TypeId × Value → H} {W : World} {spare : Nat → Bool} {held : Bool} {v : Value} {dd : DataW H} {ps : List MemPlace} {d : Kd α} {ok : α → Prop} {r : Reach} {b0 : Nat}
    (hu : P.underlying t = some (.slice e)) (he : Opens P e d ok) (hc : P.cellsOf e = d.sz) (hv : Value.okWide P W r b0 t v) (h : DataW.Trod enc P W 0 spare held t v dd ps)
    {ts : List TypeId} {ds : List (DataW H)} {j : Nat} (hsz : (DataW.weightsEach P ts ds).all (· ≤ reachBytes) = true) (ht : ts[j]? = some t) (hd : ds[j]? = some dd) {B : Nat} (hB : P.bytesOf e = B) :
    ∃ A c, ∃ l : List α, v = .slice A l.length c ∧ l.length ≤ c ∧ d.C W A l.length l ∧ (∀ y ∈ l, ok y) ∧ l.length * B ≤ 140737488351232 := by
  obtain ⟨a, len, cap, rfl⟩ := okWide_slice hu hv
  obtain ⟨fuel, hf⟩ := h
  obtain ⟨A, c, l, hcs, hl, hC, hok, hx⟩ := open_elems hu he hc hf
  simp [Value.cells] at hcs
  obtain ⟨rfl, rfl, rfl⟩ := hcs
  refine ⟨_, _, l, rfl, hl, hC, hok, ?_⟩
  rcases hx with rfl | ⟨elems, rest, hx, hlen⟩
  · simp
  · simp only at hx
    subst hx
    have z := sized_slice hsz ht hd hu
    rw [hB] at z
    rw [← hlen]
    exact Nat.le_trans (Nat.mul_le_mul_right _ (Nat.le_add_right _ _)) (by simpa [reachBytes] using z)
end
end Go.Proofs.Ytpphnjmppkbpbaa.Rd
namespace Go.Proofs.Ytpphnjmppkbpbaa.Xw
open Go.RowKit Go.Proofs.YtpphnjmppkbpbaaW.PrintWords
theorem nEm (l : List UInt8) : Ending.returned (Value.bool !l.isEmpty) = Ending.returned (Value.bool (l != [])) := by cases l <;> rfl
theorem eEm (l : List UInt8) : Ending.returned (Value.bool l.isEmpty) = Ending.returned (Value.bool (l == [])) := by cases l <;> rfl
def idxb (s : ByteArray) (c : Int) : Int := Lib.indexByte s.data.toList c.toNat.toUInt8
def lowI (x : Int) : Int := if 65 ≤ x ∧ x ≤ 90 then x - 65 + 97 else x
def lowAt (s : ByteArray) (k j : Nat) : Int := if j < k then lowI (bt s j) else bt s j
theorem low_frozen (W : World) (e : TypeId) (s : ByteArray) (j : Nat) (hj : j < s.size) : (Lib.bytesWorld W e s).frozen? ⟨W.heap.size, j, none⟩ = false := by
  have h := Lib.bytesWorld_at_new W e s
  have hs : s.size ≤ (Lib.bytesCells W e s).size := by unfold Lib.bytesCells; simp
  unfold World.frozen?
  rw [h]
  simp
  omega
theorem low_cell (W : World) (e : TypeId) (s : ByteArray) (j : Nat) (hj : j < s.size) : (Lib.bytesWorld W e s).cell? ⟨W.heap.size, j, none⟩ = some (.int .u8 (lowAt s 0 j)) := by
  rw [Lib.bytesWorld_cell W e s j hj]
  have h' : j < s.data.toList.length := by rw [data_length]; exact hj
  unfold lowAt bt
  simp [hj, List.getD_eq_getElem?_getD]
  rfl
theorem low_next (s : ByteArray) (k : Nat) (w : World) (g : Nat) (v : Int) (hv : v = lowI (bt s k)) (hk : k < s.size) (h : ∀ j, j < s.size → w.cell? ⟨g, j, none⟩ = some (.int .u8 (lowAt s k j))) :
    ∀ j, j < s.size → (w.setCell ⟨g, k, none⟩ (.int .u8 v)).cell? ⟨g, j, none⟩ = some (.int .u8 (lowAt s (k + 1) j)) := by
  intro j hj
  by_cases hjk : j = k
  · subst hjk
    rw [World.cell?_setCell_same' _ _ _ (by rw [h j hj]; rfl), hv]
    unfold lowAt; rw [if_pos (by omega)]
  · rw [World.cell?_setCell_other _ _ _ _ (by simp), h j hj]
    unfold lowAt
    by_cases hl : j < k
    · rw [if_pos hl, if_pos (by omega)]
    · rw [if_neg hl, if_neg (by omega)]
theorem low_stay (s : ByteArray) (k : Nat) (w : World) (g : Nat) (hv : lowI (bt s k) = bt s k) (h : ∀ j, j < s.size → w.cell? ⟨g, j, none⟩ = some (.int .u8 (lowAt s k j))) :
    ∀ j, j < s.size → w.cell? ⟨g, j, none⟩ = some (.int .u8 (lowAt s (k + 1) j)) := by
  intro j hj
  rw [h j hj]
  unfold lowAt
  by_cases hjk : j = k
  · subst hjk; rw [if_neg (by omega), if_pos (by omega), hv]
  · by_cases hl : j < k
    · rw [if_pos hl, if_pos (by omega)]
    · rw [if_neg hl, if_neg (by omega)]
structure LowIn (s : ByteArray) (g : Nat) (k : Nat) (w wr : World) : Prop where
  cells : ∀ j, j < s.size → wr.cell? ⟨g, j, none⟩ = some (.int .u8 (lowAt s k j))
  free : ∀ j, j < s.size → wr.frozen? ⟨g, j, none⟩ = false
  below : Below w.heap.size w wr
theorem low_end (s : ByteArray) : ((bytesOf s).map lowI).length = s.size ∧ ∀ i, i < s.size → ((bytesOf s).map lowI).getD i 0 = lowAt s s.size i := by
  refine ⟨by rw [List.length_map, bytesOf_length], fun i hi => ?_⟩
  have h1 : i < (bytesOf s).length := by rw [bytesOf_length]; exact hi
  have h := rd_bytesOf s i
  unfold rd at h
  simp [List.getD_eq_getElem?_getD, List.getElem?_eq_getElem h1] at h ⊢
  rw [h]; unfold lowAt; rw [if_pos hi]
theorem celN1 {w : World} {g : Nat} {t : TypeId} {a : Value} (h : w.heap[g]? = some (.cells #[a] t (0, 0))) : w.cell? ⟨g, 0, none⟩ = some a := (bCe h 0).trans rfl
theorem fzN1 {w : World} {g : Nat} {t : TypeId} {cs : Array Value} (h : w.heap[g]? = some (.cells cs t (0, 0))) : w.frozen? ⟨g, 0, none⟩ = false := bFz h 0
theorem celN2 {w : World} {g : Nat} {t : TypeId} {a b : Value} (h : w.heap[g]? = some (.cells #[a, b] t (0, 0))) : w.cell? ⟨g, 0, none⟩ = some a ∧ w.cell? ⟨g, 1, none⟩ = some b := ⟨(bCe h 0).trans rfl, (bCe h 1).trans rfl⟩
theorem fzN2 {w : World} {g : Nat} {t : TypeId} {cs : Array Value} (h : w.heap[g]? = some (.cells cs t (0, 0))) : w.frozen? ⟨g, 0, none⟩ = false ∧ w.frozen? ⟨g, 1, none⟩ = false := ⟨bFz h 0, bFz h 1⟩
theorem celN3 {w : World} {g : Nat} {t : TypeId} {a b c : Value} (h : w.heap[g]? = some (.cells #[a, b, c] t (0, 0))) : w.cell? ⟨g, 0, none⟩ = some a ∧ w.cell? ⟨g, 1, none⟩ = some b ∧ w.cell? ⟨g, 2, none⟩ = some c := ⟨(bCe h 0).trans rfl, (bCe h 1).trans rfl, (bCe h 2).trans rfl⟩
theorem fzN3 {w : World} {g : Nat} {t : TypeId} {cs : Array Value} (h : w.heap[g]? = some (.cells cs t (0, 0))) : w.frozen? ⟨g, 0, none⟩ = false ∧ w.frozen? ⟨g, 1, none⟩ = false ∧ w.frozen? ⟨g, 2, none⟩ = false := ⟨bFz h 0, bFz h 1, bFz h 2⟩
theorem celN4 {w : World} {g : Nat} {t : TypeId} {a b c d : Value} (h : w.heap[g]? = some (.cells #[a, b, c, d] t (0, 0))) : w.cell? ⟨g, 0, none⟩ = some a ∧ w.cell? ⟨g, 1, none⟩ = some b ∧ w.cell? ⟨g, 2, none⟩ = some c ∧ w.cell? ⟨g, 3, none⟩ = some d := ⟨(bCe h 0).trans rfl, (bCe h 1).trans rfl, (bCe h 2).trans rfl, (bCe h 3).trans rfl⟩
theorem fzN4 {w : World} {g : Nat} {t : TypeId} {cs : Array Value} (h : w.heap[g]? = some (.cells cs t (0, 0))) : w.frozen? ⟨g, 0, none⟩ = false ∧ w.frozen? ⟨g, 1, none⟩ = false ∧ w.frozen? ⟨g, 2, none⟩ = false ∧ w.frozen? ⟨g, 3, none⟩ = false := ⟨bFz h 0, bFz h 1, bFz h 2, bFz h 3⟩
theorem celN5 {w : World} {g : Nat} {t : TypeId} {a b c d p : Value} (h : w.heap[g]? = some (.cells #[a, b, c, d, p] t (0, 0))) : w.cell? ⟨g, 0, none⟩ = some a ∧ w.cell? ⟨g, 1, none⟩ = some b ∧ w.cell? ⟨g, 2, none⟩ = some c ∧ w.cell? ⟨g, 3, none⟩ = some d ∧ w.cell? ⟨g, 4, none⟩ = some p := ⟨(bCe h 0).trans rfl, (bCe h 1).trans rfl, (bCe h 2).trans rfl, (bCe h 3).trans rfl, (bCe h 4).trans rfl⟩
theorem fzN5 {w : World} {g : Nat} {t : TypeId} {cs : Array Value} (h : w.heap[g]? = some (.cells cs t (0, 0))) : w.frozen? ⟨g, 0, none⟩ = false ∧ w.frozen? ⟨g, 1, none⟩ = false ∧ w.frozen? ⟨g, 2, none⟩ = false ∧ w.frozen? ⟨g, 3, none⟩ = false ∧ w.frozen? ⟨g, 4, none⟩ = false := ⟨bFz h 0, bFz h 1, bFz h 2, bFz h 3, bFz h 4⟩
theorem celN6 {w : World} {g : Nat} {t : TypeId} {a b c d p q : Value} (h : w.heap[g]? = some (.cells #[a, b, c, d, p, q] t (0, 0))) : w.cell? ⟨g, 0, none⟩ = some a ∧ w.cell? ⟨g, 1, none⟩ = some b ∧ w.cell? ⟨g, 2, none⟩ = some c ∧ w.cell? ⟨g, 3, none⟩ = some d ∧ w.cell? ⟨g, 4, none⟩ = some p ∧ w.cell? ⟨g, 5, none⟩ = some q := ⟨(bCe h 0).trans rfl, (bCe h 1).trans rfl, (bCe h 2).trans rfl, (bCe h 3).trans rfl, (bCe h 4).trans rfl, (bCe h 5).trans rfl⟩
theorem fzN6 {w : World} {g : Nat} {t : TypeId} {cs : Array Value} (h : w.heap[g]? = some (.cells cs t (0, 0))) : w.frozen? ⟨g, 0, none⟩ = false ∧ w.frozen? ⟨g, 1, none⟩ = false ∧ w.frozen? ⟨g, 2, none⟩ = false ∧ w.frozen? ⟨g, 3, none⟩ = false ∧ w.frozen? ⟨g, 4, none⟩ = false ∧ w.frozen? ⟨g, 5, none⟩ = false := ⟨bFz h 0, bFz h 1, bFz h 2, bFz h 3, bFz h 4, bFz h 5⟩
theorem celN7 {w : World} {g : Nat} {t : TypeId} {a b c d p q r : Value} (h : w.heap[g]? = some (.cells #[a, b, c, d, p, q, r] t (0, 0))) : w.cell? ⟨g, 0, none⟩ = some a ∧ w.cell? ⟨g, 1, none⟩ = some b ∧ w.cell? ⟨g, 2, none⟩ = some c ∧ w.cell? ⟨g, 3, none⟩ = some d ∧ w.cell? ⟨g, 4, none⟩ = some p ∧ w.cell? ⟨g, 5, none⟩ = some q ∧ w.cell? ⟨g, 6, none⟩ = some r := ⟨(bCe h 0).trans rfl, (bCe h 1).trans rfl, (bCe h 2).trans rfl, (bCe h 3).trans rfl, (bCe h 4).trans rfl, (bCe h 5).trans rfl, (bCe h 6).trans rfl⟩
theorem fzN7 {w : World} {g : Nat} {t : TypeId} {cs : Array Value} (h : w.heap[g]? = some (.cells cs t (0, 0))) : w.frozen? ⟨g, 0, none⟩ = false ∧ w.frozen? ⟨g, 1, none⟩ = false ∧ w.frozen? ⟨g, 2, none⟩ = false ∧ w.frozen? ⟨g, 3, none⟩ = false ∧ w.frozen? ⟨g, 4, none⟩ = false ∧ w.frozen? ⟨g, 5, none⟩ = false ∧ w.frozen? ⟨g, 6, none⟩ = false := ⟨bFz h 0, bFz h 1, bFz h 2, bFz h 3, bFz h 4, bFz h 5, bFz h 6⟩
theorem celN8 {w : World} {g : Nat} {t : TypeId} {a b c d p q r s : Value} (h : w.heap[g]? = some (.cells #[a, b, c, d, p, q, r, s] t (0, 0))) : w.cell? ⟨g, 0, none⟩ = some a ∧ w.cell? ⟨g, 1, none⟩ = some b ∧ w.cell? ⟨g, 2, none⟩ = some c ∧ w.cell? ⟨g, 3, none⟩ = some d ∧ w.cell? ⟨g, 4, none⟩ = some p ∧ w.cell? ⟨g, 5, none⟩ = some q ∧ w.cell? ⟨g, 6, none⟩ = some r ∧ w.cell? ⟨g, 7, none⟩ = some s := ⟨(bCe h 0).trans rfl, (bCe h 1).trans rfl, (bCe h 2).trans rfl, (bCe h 3).trans rfl, (bCe h 4).trans rfl, (bCe h 5).trans rfl, (bCe h 6).trans rfl, (bCe h 7).trans rfl⟩
theorem fzN8 {w : World} {g : Nat} {t : TypeId} {cs : Array Value} (h : w.heap[g]? = some (.cells cs t (0, 0))) : w.frozen? ⟨g, 0, none⟩ = false ∧ w.frozen? ⟨g, 1, none⟩ = false ∧ w.frozen? ⟨g, 2, none⟩ = false ∧ w.frozen? ⟨g, 3, none⟩ = false ∧ w.frozen? ⟨g, 4, none⟩ = false ∧ w.frozen? ⟨g, 5, none⟩ = false ∧ w.frozen? ⟨g, 6, none⟩ = false ∧ w.frozen? ⟨g, 7, none⟩ = false := ⟨bFz h 0, bFz h 1, bFz h 2, bFz h 3, bFz h 4, bFz h 5, bFz h 6, bFz h 7⟩
theorem lsA {α : Type} (l : List α) (i : Nat) (a : α) : l.toArray.setIfInBounds i a = (l.set i a).toArray := List.setIfInBounds_toArray l i a
theorem lsB {α : Type} (x : α) (l : List α) (a : α) : (x :: l).set 0 a = a :: l := rfl
theorem lsC {α : Type} (x : α) (l : List α) (n : Nat) (a : α) : (x :: l).set (n + 1) a = x :: l.set n a := rfl
theorem lsD {α β : Type} (f : α → β) (l : List α) : l.toArray.map f = (l.map f).toArray := List.map_toArray
theorem lsE {α β : Type} (f : α → β) (x : α) (l : List α) : (x :: l).map f = f x :: l.map f := rfl
theorem lsF {α β : Type} (f : α → β) : ([] : List α).map f = [] := rfl
theorem lsG {α : Type} (i : Nat) (l : List α) : (l.drop i).length = l.length - i := List.length_drop
theorem lsH {α : Type} (i : Nat) (l : List α) : (l.take i).length = min i l.length := List.length_take
end Go.Proofs.Ytpphnjmppkbpbaa.Xw
namespace Go.Proofs.Ytpphnjmppkbpbaa.PAll
open Go.RowKit Go.Proofs.Ytpphnjmppkbpbaa.Xw Go.Proofs.YtpphnjmppkbpbaaW.PrintWords Go.Proofs.YtpphnjmppkbpbaaW.PrintLast Go.Proofs.YtpphnjmppkbpbaaW.PrintMore
attribute [local go_sem] max2_int min2_int max_two min_two max_three min_three max_four min_four
set_option linter.unusedVariables false
set_option linter.unusedSimpArgs false
def errW : Option Int → Value
  | none => .nilIface
  | some c => .iface 0 (.int .i64 c)
theorem eWn : errW none = .nilIface := rfl
theorem eWs (c : Int) : errW (some c) = .iface 0 (.int .i64 c) := rfl
theorem info5 : (Try.prog.info? 5).map (fun i => (i.zero, i.size, i.bytes)) = some (some (.int .u8 0), 1, 1) := by kernel_rfl
structure S30 where
  f0 : Int
  f1 : Int
def z30 : S30 := ⟨(0 : Int), (0 : Int)⟩
def k30 : Kd S30 := Kd.iso (Kd.pair (Kd.int .i64) (Kd.int .i64)) (fun x : S30 => (x.f0, x.f1))
theorem k30_open {w : World} {x : S30} {cs : List Value} (h : k30.K w x cs) : cs = [.int .i64 x.f0, .int .i64 x.f1] := by
  obtain ⟨_, _, rfl, rfl, rfl⟩ := h
  exact rfl
theorem k30_mkM (w : World) (base : Nat) (ok : Nat → Prop) (x : S30)  : k30.M w base ok x [.int .i64 x.f0, .int .i64 x.f1] := ⟨[.int .i64 x.f0], [.int .i64 x.f1], rfl, rfl, rfl⟩
structure S32 where
  f0 : Int
  f1 : Bool
  f2 : ByteArray
  f3 : S30
def z32 : S32 := ⟨(0 : Int), false, (⟨#[]⟩ : ByteArray), z30⟩
def k32 : Kd S32 := Kd.iso (Kd.pair (Kd.int .i64) (Kd.pair Kd.bool (Kd.pair Kd.string k30))) (fun x : S32 => (x.f0, x.f1, x.f2, x.f3))
theorem k32_open {w : World} {x : S32} {cs : List Value} (h : k32.K w x cs) : cs = [.int .i64 x.f0, .bool x.f1, .string x.f2, .int .i64 x.f3.f0, .int .i64 x.f3.f1] := by
  obtain ⟨_, _, rfl, rfl, ⟨_, _, rfl, rfl, ⟨_, _, rfl, rfl, s3⟩⟩⟩ := h
  obtain rfl := k30_open s3
  exact rfl
theorem k32_mkM (w : World) (base : Nat) (ok : Nat → Prop) (x : S32)  : k32.M w base ok x [.int .i64 x.f0, .bool x.f1, .string x.f2, .int .i64 x.f3.f0, .int .i64 x.f3.f1] := ⟨[.int .i64 x.f0], [.bool x.f1, .string x.f2, .int .i64 x.f3.f0, .int .i64 x.f3.f1], rfl, rfl, ⟨[.bool x.f1], [.string x.f2, .int .i64 x.f3.f0, .int .i64 x.f3.f1], rfl, rfl, ⟨[.string x.f2], [.int .i64 x.f3.f0, .int .i64 x.f3.f1], rfl, rfl, (k30_mkM w base ok x.f3 )⟩⟩⟩
def rd_T32 (xs : List S32) (i : Int) : S32 := xs.getD i.toNat z32
theorem at_T32 {w : World} {A : Option Addr} {n : Nat} {xs : List S32} (h : Kd.C k32 w A n xs) (i : Int) (h0 : 0 ≤ i) (h1 : i < n) : ∃ ad , A = some ad ∧ w.cell? (ad.add (i.toNat * 5)) = some (.int .i64 (rd_T32 xs i).f0) ∧ w.cell? ⟨(ad.add (i.toNat * 5)).block, (ad.add (i.toNat * 5)).off + 1, none⟩ = some (.bool (rd_T32 xs i).f1) ∧ w.cell? ⟨(ad.add (i.toNat * 5)).block, (ad.add (i.toNat * 5)).off + 2, none⟩ = some (.string (rd_T32 xs i).f2) ∧ w.cell? ⟨(ad.add (i.toNat * 5)).block, (ad.add (i.toNat * 5)).off + 3, none⟩ = some (.int .i64 (rd_T32 xs i).f3.f0) ∧ w.cell? ⟨(ad.add (i.toNat * 5)).block, (ad.add (i.toNat * 5)).off + 4, none⟩ = some (.int .i64 (rd_T32 xs i).f3.f1) := by
  obtain ⟨ad, c, e, _, hK, hc0⟩ := Kd.C_get h z32 i h0 h1
  have hc : ∀ j u, c[j]? = some u → w.cell? (ad.add (i.toNat * 5 + j)) = some u := hc0
  obtain rfl := k32_open hK
  exact ⟨ad, e, hc 0 _ rfl, by rw [← add_field _ _ 1 (by omega)]; exact hc 1 _ rfl, by rw [← add_field _ _ 2 (by omega)]; exact hc 2 _ rfl, by rw [← add_field _ _ 3 (by omega)]; exact hc 3 _ rfl, by rw [← add_field _ _ 4 (by omega)]; exact hc 4 _ rfl⟩
structure S34 where
  f0 : Int
  f1 : S32
  f2 : Int
def z34 : S34 := ⟨(0 : Int), z32, (0 : Int)⟩
def k34 : Kd S34 := Kd.iso (Kd.pair (Kd.int .i64) (Kd.pair k32 (Kd.int .i64))) (fun x : S34 => (x.f0, x.f1, x.f2))
theorem k34_open {w : World} {x : S34} {cs : List Value} (h : k34.K w x cs) : cs = [.int .i64 x.f0, .int .i64 x.f1.f0, .bool x.f1.f1, .string x.f1.f2, .int .i64 x.f1.f3.f0, .int .i64 x.f1.f3.f1, .int .i64 x.f2] := by
  obtain ⟨_, _, rfl, rfl, ⟨_, _, rfl, s1, rfl⟩⟩ := h
  obtain rfl := k32_open s1
  exact rfl
def rd_T34 (xs : List S34) (i : Int) : S34 := xs.getD i.toNat z34
theorem at_T34 {w : World} {A : Option Addr} {n : Nat} {xs : List S34} (h : Kd.C k34 w A n xs) (i : Int) (h0 : 0 ≤ i) (h1 : i < n) : ∃ ad , A = some ad ∧ w.cell? (ad.add (i.toNat * 7)) = some (.int .i64 (rd_T34 xs i).f0) ∧ w.cell? ⟨(ad.add (i.toNat * 7)).block, (ad.add (i.toNat * 7)).off + 1, none⟩ = some (.int .i64 (rd_T34 xs i).f1.f0) ∧ w.cell? ⟨(ad.add (i.toNat * 7)).block, (ad.add (i.toNat * 7)).off + 2, none⟩ = some (.bool (rd_T34 xs i).f1.f1) ∧ w.cell? ⟨(ad.add (i.toNat * 7)).block, (ad.add (i.toNat * 7)).off + 3, none⟩ = some (.string (rd_T34 xs i).f1.f2) ∧ w.cell? ⟨(ad.add (i.toNat * 7)).block, (ad.add (i.toNat * 7)).off + 4, none⟩ = some (.int .i64 (rd_T34 xs i).f1.f3.f0) ∧ w.cell? ⟨(ad.add (i.toNat * 7)).block, (ad.add (i.toNat * 7)).off + 5, none⟩ = some (.int .i64 (rd_T34 xs i).f1.f3.f1) ∧ w.cell? ⟨(ad.add (i.toNat * 7)).block, (ad.add (i.toNat * 7)).off + 6, none⟩ = some (.int .i64 (rd_T34 xs i).f2) := by
  obtain ⟨ad, c, e, _, hK, hc0⟩ := Kd.C_get h z34 i h0 h1
  have hc : ∀ j u, c[j]? = some u → w.cell? (ad.add (i.toNat * 7 + j)) = some u := hc0
  obtain rfl := k34_open hK
  exact ⟨ad, e, hc 0 _ rfl, by rw [← add_field _ _ 1 (by omega)]; exact hc 1 _ rfl, by rw [← add_field _ _ 2 (by omega)]; exact hc 2 _ rfl, by rw [← add_field _ _ 3 (by omega)]; exact hc 3 _ rfl, by rw [← add_field _ _ 4 (by omega)]; exact hc 4 _ rfl, by rw [← add_field _ _ 5 (by omega)]; exact hc 5 _ rfl, by rw [← add_field _ _ 6 (by omega)]; exact hc 6 _ rfl⟩
end Go.Proofs.Ytpphnjmppkbpbaa.PAll
namespace Go.Proofs.Ytpphnjmppkbpbaa.PAll
open Go.RowKit Go.Proofs.Ytpphnjmppkbpbaa.Xw Go.Proofs.YtpphnjmppkbpbaaW.PrintWords Go.Proofs.YtpphnjmppkbpbaaW.PrintLast Go.Proofs.YtpphnjmppkbpbaaW.PrintMore
attribute [local go_sem] max2_int min2_int max_two min_two max_three min_three max_four min_four
set_option linter.unusedVariables false
set_option linter.unusedSimpArgs false
def reply_Down.f  : Option (Int × ByteArray × Int × ByteArray × List Int) := some (503, (⟨#[]⟩ : ByteArray), 0, (⟨#[]⟩ : ByteArray), ([] : List Int))
set_option maxHeartbeats 8000000 in
set_option maxRecDepth 100000 in
theorem reply_Down.calls  (r1 : Int) (r2 : ByteArray) (r3 : Int) (r4 : ByteArray) (r5 : List Int) (w : World) (h : reply_Down.f  = some (r1, r2, r3, r4, r5)) :
    Calls Try.prog 26 #[] w fun e w' => ∃ v4_ : Value, e = .returned (.agg #[.int .i64 r1, .string r2, .int .i64 r3, .string r4, v4_]) ∧ Kd.R (Kd.int .u8) 5 w' w.heap.size (fun _ => True) v4_ r5 ∧ Below w.heap.size w w' := by
  have hu40 := Try.underlying40
  have HB := AsZ.mk (Below.refl w.heap.size w)
  have H : (some (503, (⟨#[]⟩ : ByteArray), 0, (⟨#[]⟩ : ByteArray), ([] : List Int))) = some (r1, r2, r3, r4, r5) := h
  clear h
  simp only [Option.some.injEq, Prod.mk.injEq] at H
  obtain ⟨rfl, rfl, rfl, rfl, rfl⟩ := H
  go_enter Try.func26, Try.ntmps26
  go_wp2_with (first | ((with_reducible refine gDs (N := 0) rfl ?_); refine bEv ?hg (N := 0) ?hd (cs := #[.int .i64 0, .string (⟨#[]⟩ : ByteArray), .int .i64 0, .string (⟨#[]⟩ : ByteArray), .slice none 0 0]) (t := 40) ?hr ?_; (case hd => rfl); (case hg => rfl); (case hr => first | (go_simp; done) | (go_simp; rfl)); intro gb101 hg w1 hbox hb; have n0_ := AsZ.mk (tBl (by repeat (first | (with_reducible first | exact HB.out | apply aBl | apply pBd | apply dBl) | exact HB.out)) hb); have n1_ := AsZ.mk (hbox); have n2_ := AsZ.mk ((by rw [hg]; exact (zBl (by repeat (first | (with_reducible first | exact HB.out | apply aBl | apply pBd | apply dBl) | exact HB.out))) : w.heap.size ≤ gb101)); have n3_ := AsZ.mk ((by rw [hg]; exact (zBl (by repeat (first | (with_reducible first | exact HB.out | apply aBl | apply pBd | apply dBl) | exact HB.out))) : w.heap.size ≤ gb101)); clear HB; have HB := n0_; have BK101 := n1_; have GW101 := n2_; have GE101 := n3_; clear n0_ n1_ n2_ n3_; clear hb hbox hg; obtain ⟨hcz2_0, hcz2_1, hcz2_2, hcz2_3, hcz2_4⟩ := celN5 BK101.out; obtain ⟨hfz2_0, hfz2_1, hfz2_2, hfz2_3, hfz2_4⟩ := fzN5 BK101.out))
  refine bodyPost_ret (results_cell_row rfl _ _ gb101 40 #[.int .i64 503, .string (⟨#[]⟩ : ByteArray), .int .i64 0, .string (⟨#[]⟩ : ByteArray), .slice none 0 0] (0, 0) _ rfl (by (with_reducible repeat first | apply bDn | apply bDr | apply bAl); refine bPu (cs := #[.int .i64 503, .string (⟨#[]⟩ : ByteArray), .int .i64 0, .string (⟨#[]⟩ : ByteArray), .slice none 0 0]) ?_ 4 _ rfl; (with_reducible repeat first | apply bDn | apply bDr | apply bAl); refine bPu (cs := #[.int .i64 503, .string (⟨#[]⟩ : ByteArray), .int .i64 0, .string (⟨#[]⟩ : ByteArray), .slice none 0 0]) ?_ 3 _ rfl; (with_reducible repeat first | apply bDn | apply bDr | apply bAl); refine bPu (cs := #[.int .i64 503, .string (⟨#[]⟩ : ByteArray), .int .i64 0, .string (⟨#[]⟩ : ByteArray), .slice none 0 0]) ?_ 2 _ rfl; (with_reducible repeat first | apply bDn | apply bDr | apply bAl); refine bPu (cs := #[.int .i64 503, .string (⟨#[]⟩ : ByteArray), .int .i64 0, .string (⟨#[]⟩ : ByteArray), .slice none 0 0]) ?_ 1 _ rfl; (with_reducible repeat first | apply bDn | apply bDr | apply bAl); refine bPu (cs := #[.int .i64 0, .string (⟨#[]⟩ : ByteArray), .int .i64 0, .string (⟨#[]⟩ : ByteArray), .slice none 0 0]) ?_ 0 _ rfl; (with_reducible repeat first | apply bDn | apply bDr | apply bAl); exact BK101.out) Try.underlying40 rfl (by kernel_rfl)) rfl ?_
  exact ⟨_, by first | rfl | (simp [eWn, eWs] <;> rfl) | (simp [*, eWn, eWs] <;> rfl), by first | exact Kd.R_nil _ _ _ _ _ | exact Kd.N_nil _ _ _ _ _ | exact Kd.V_nil _ _ _ _ _ | exact Kd.Q_nil _ _ _ _ _ | exact Kd.S_nil _ _ _ _ _, by repeat (first | (with_reducible first | exact HB.out | apply aBl | apply pBd | apply dBl | refine sBl ?_ GE101.out) | exact HB.out)⟩
def reply_Gone.f  : Option (Int × ByteArray × Int × ByteArray × List Int) := some (404, (⟨#[]⟩ : ByteArray), 0, (⟨#[]⟩ : ByteArray), ([] : List Int))
set_option maxHeartbeats 8000000 in
set_option maxRecDepth 100000 in
theorem reply_Gone.calls  (r1 : Int) (r2 : ByteArray) (r3 : Int) (r4 : ByteArray) (r5 : List Int) (w : World) (h : reply_Gone.f  = some (r1, r2, r3, r4, r5)) :
    Calls Try.prog 40 #[] w fun e w' => ∃ v4_ : Value, e = .returned (.agg #[.int .i64 r1, .string r2, .int .i64 r3, .string r4, v4_]) ∧ Kd.R (Kd.int .u8) 5 w' w.heap.size (fun _ => True) v4_ r5 ∧ Below w.heap.size w w' := by
  have hu40 := Try.underlying40
  have HB := AsZ.mk (Below.refl w.heap.size w)
  have H : (some (404, (⟨#[]⟩ : ByteArray), 0, (⟨#[]⟩ : ByteArray), ([] : List Int))) = some (r1, r2, r3, r4, r5) := h
  clear h
  simp only [Option.some.injEq, Prod.mk.injEq] at H
  obtain ⟨rfl, rfl, rfl, rfl, rfl⟩ := H
  go_enter Try.func40, Try.ntmps40
  go_wp2_with (first | ((with_reducible refine gDs (N := 0) rfl ?_); refine bEv ?hg (N := 0) ?hd (cs := #[.int .i64 0, .string (⟨#[]⟩ : ByteArray), .int .i64 0, .string (⟨#[]⟩ : ByteArray), .slice none 0 0]) (t := 40) ?hr ?_; (case hd => rfl); (case hg => rfl); (case hr => first | (go_simp; done) | (go_simp; rfl)); intro gb102 hg w1 hbox hb; have n0_ := AsZ.mk (tBl (by repeat (first | (with_reducible first | exact HB.out | apply aBl | apply pBd | apply dBl) | exact HB.out)) hb); have n1_ := AsZ.mk (hbox); have n2_ := AsZ.mk ((by rw [hg]; exact (zBl (by repeat (first | (with_reducible first | exact HB.out | apply aBl | apply pBd | apply dBl) | exact HB.out))) : w.heap.size ≤ gb102)); have n3_ := AsZ.mk ((by rw [hg]; exact (zBl (by repeat (first | (with_reducible first | exact HB.out | apply aBl | apply pBd | apply dBl) | exact HB.out))) : w.heap.size ≤ gb102)); clear HB; have HB := n0_; have BK102 := n1_; have GW102 := n2_; have GE102 := n3_; clear n0_ n1_ n2_ n3_; clear hb hbox hg; obtain ⟨hcz2_0, hcz2_1, hcz2_2, hcz2_3, hcz2_4⟩ := celN5 BK102.out; obtain ⟨hfz2_0, hfz2_1, hfz2_2, hfz2_3, hfz2_4⟩ := fzN5 BK102.out))
  refine bodyPost_ret (results_cell_row rfl _ _ gb102 40 #[.int .i64 404, .string (⟨#[]⟩ : ByteArray), .int .i64 0, .string (⟨#[]⟩ : ByteArray), .slice none 0 0] (0, 0) _ rfl (by (with_reducible repeat first | apply bDn | apply bDr | apply bAl); refine bPu (cs := #[.int .i64 404, .string (⟨#[]⟩ : ByteArray), .int .i64 0, .string (⟨#[]⟩ : ByteArray), .slice none 0 0]) ?_ 4 _ rfl; (with_reducible repeat first | apply bDn | apply bDr | apply bAl); refine bPu (cs := #[.int .i64 404, .string (⟨#[]⟩ : ByteArray), .int .i64 0, .string (⟨#[]⟩ : ByteArray), .slice none 0 0]) ?_ 3 _ rfl; (with_reducible repeat first | apply bDn | apply bDr | apply bAl); refine bPu (cs := #[.int .i64 404, .string (⟨#[]⟩ : ByteArray), .int .i64 0, .string (⟨#[]⟩ : ByteArray), .slice none 0 0]) ?_ 2 _ rfl; (with_reducible repeat first | apply bDn | apply bDr | apply bAl); refine bPu (cs := #[.int .i64 404, .string (⟨#[]⟩ : ByteArray), .int .i64 0, .string (⟨#[]⟩ : ByteArray), .slice none 0 0]) ?_ 1 _ rfl; (with_reducible repeat first | apply bDn | apply bDr | apply bAl); refine bPu (cs := #[.int .i64 0, .string (⟨#[]⟩ : ByteArray), .int .i64 0, .string (⟨#[]⟩ : ByteArray), .slice none 0 0]) ?_ 0 _ rfl; (with_reducible repeat first | apply bDn | apply bDr | apply bAl); exact BK102.out) Try.underlying40 rfl (by kernel_rfl)) rfl ?_
  exact ⟨_, by first | rfl | (simp [eWn, eWs] <;> rfl) | (simp [*, eWn, eWs] <;> rfl), by first | exact Kd.R_nil _ _ _ _ _ | exact Kd.N_nil _ _ _ _ _ | exact Kd.V_nil _ _ _ _ _ | exact Kd.Q_nil _ _ _ _ _ | exact Kd.S_nil _ _ _ _ _, by repeat (first | (with_reducible first | exact HB.out | apply aBl | apply pBd | apply dBl | refine sBl ?_ GE102.out) | exact HB.out)⟩
def bytes_Clone.f (l0 : List Int) : Option (List Int) := (some (([] : List Int) : List Int)).bind fun y103 => (if y103.length + l0.length < 140737488355328 then (some (y103 ++ l0)) else (none))
set_option maxHeartbeats 8000000 in
set_option maxRecDepth 100000 in
theorem bytes_Clone.calls (A0 : Option Addr) (c0 : Nat) (l0 : List Int) (r : List Int) (w : World) (hr0 : Kd.C (Kd.int .u8) w A0 l0.length l0) (hc0 : l0.length ≤ c0) (h : bytes_Clone.f l0 = some r) :
    Calls Try.prog 46 #[.slice A0 l0.length c0] w fun e w' => ∃ v0_ : Value, e = .returned (v0_) ∧ Kd.R (Kd.int .u8) 5 w' w.heap.size (fun _ => True) v0_ r ∧ Below w.heap.size w w' := by
  have HR0 := AsZ.mk hr0
  have HC0 := AsZ.mk hc0
  clear hr0 hc0
  have HB := AsZ.mk (Below.refl w.heap.size w)
  have H : ((some (([] : List Int) : List Int)).bind fun y103 => (if y103.length + l0.length < 140737488355328 then (some (y103 ++ l0)) else (none))) = some r := h
  clear h
  obtain ⟨y103, hy103⟩ : ∃ y_ : List Int, y_ = (([] : List Int)) := ⟨_, rfl⟩
  replace H : (if y103.length + l0.length < 140737488355328 then (some (y103 ++ l0)) else (none)) = some r := by first | (rw [hy103]; with_reducible exact H) | (have H2_ := (Option.bind_some _ _).symm.trans H; rw [hy103]; with_reducible exact H2_) | (have H2_ := (Option.bind_some _ _).symm.trans H; with_reducible exact H2_) | with_reducible exact H | (rw [hy103]; exact H) | exact H
  have Ny103 := AsZ.mk hy103
  clear hy103
  by_cases c2 : y103.length + l0.length < 140737488355328
  · rw [if_pos c2] at H
    have LMc2 := AsZ.mk c2
    clear c2
    obtain ⟨y106, hy106⟩ : ∃ y_ : List Int, y_ = (y103 ++ l0) := ⟨_, rfl⟩
    replace H : (some y106) = some r := by first | (rw [hy106]; with_reducible exact H) | (have H2_ := (Option.bind_some _ _).symm.trans H; rw [hy106]; with_reducible exact H2_) | (have H2_ := (Option.bind_some _ _).symm.trans H; with_reducible exact H2_) | with_reducible exact H | (rw [hy106]; exact H) | exact H
    have Ny106 := AsZ.mk hy106
    clear hy106
    obtain rfl := Option.some.inj H
    have qT := fun (w : World) (a : Option Addr) (n c n' c' : Nat) => Lib.run_eql_slice_nil (P := Try.prog) w 38 _ a n c n' c' Try.underlying38
    cases A0 with
    | none =>
      have e0 : l0 = [] := by
        have h_ := HR0.out.2.2
        rcases Nat.eq_zero_or_pos l0.length with h0_ | h0_
        · exact List.eq_nil_of_length_eq_zero h0_
        · obtain ⟨a_, ha_, _⟩ := h_ h0_; cases ha_
      have e1 : y106 = [] := by rw [Ny106.out, Ny103.out, e0]; rfl
      rw [e1]
      clear e1 HR0 Ny106
      subst e0
      go_enter Try.func46, Try.ntmps46
      go_wp2_with (fail)
      go_ret
      exact ⟨_, rfl, Kd.R_nil _ _ _ _ _, HB.out⟩
    | some A0 =>
      go_enter Try.func46, Try.ntmps46
      go_wp2_with (first | ((with_reducible refine gDs (N := 5) rfl ?_); refine Kd.R_lit (Kd.int .u8) _ 5 ?hg (N := 5) ?hd (xs := ([] : List Int)) (inner := []) (ok := fun _ => True) (okp := fun _ => True) ?hr ?hp (fun _ hk => hk) trivial (Below.refl _ _) (Nat.le_refl _) (by simp) ?_; (case hd => rfl); (case hg => rfl); (case hr => first | (go_simp; done) | (go_simp; rfl)); (case hp => exact (Reps.none _ _)); intro v104 w3 ho4 hb hg_ hnew_; clear hg_ hnew_; (first | rw [← Ny103.out] at ho4 | (simp only [Int.reduceToNat] at ho4; rw [← Ny103.out] at ho4)); have n0_ := AsZ.mk (Kd.R_lower ho4 (zBl (by repeat (first | (with_reducible first | exact HB.out | apply aBl | apply pBd | apply dBl) | exact HB.out)))); have n1_ := AsZ.mk (tBl (by repeat (first | (with_reducible first | exact HB.out | apply aBl | apply pBd | apply dBl) | exact HB.out)) hb); clear HB; have HO105 := n0_; have HB := n1_; clear n0_ n1_; clear hb ho4) | ((with_reducible refine gate_builtin (b := .append) (xs := #[.tmp 5, .tmp 6]) rfl ?_); at_builtin; refine Kd.R_append_rows (Kd.int .u8) (w0 := w) w.heap.size rfl (.tmp 5) (.tmp 6) 38 5 (.int .u8 0) 1 rfl Try.underlying38 info5 rfl (by decide) (by omega) v104 y103 l0 _ _ _ (fun _ => True) (fun _ => False) rfl rfl ?aO ?aR (fun _ _ h => h) (fun _ h => h.elim) ?aF ?aB ?aS ?aL ?_; (case aR => repeat (first | exact (Kd.C_below HR0.out HB.out) | (with_reducible refine Kd.C_alloc ?_ _) | (with_reducible refine Kd.C_drewN ?_ _) | (with_reducible refine Kd.C_drew ?_))); (case aB => exact (by repeat (first | (with_reducible first | exact HB.out | apply aBl | apply pBd | apply dBl) | exact HB.out))); (case aF => exact (fun _ _ => trivial)); (case aO => exact (by (with_reducible repeat (first | apply Kd.R_alloc | apply Kd.R_drewN | apply Kd.R_drew)); exact HO105.out)); (case aS => exact (zBl (by repeat (first | (with_reducible first | exact HB.out | apply aBl | apply pBd | apply dBl) | exact HB.out)))); (case aL => have := LMc2.out; omega); intro v107 w5 ho hb hg hat; rw [← Ny106.out] at ho; have n0_ := AsZ.mk (hb); have n1_ := AsZ.mk (ho); clear HB; clear HO105; have HB := n0_; have HO108 := n1_; clear n0_ n1_; clear ho hb hg hat))
      go_ret
      exact ⟨_, by first | rfl | (simp [eWn, eWs] <;> rfl) | (simp [*, eWn, eWs] <;> rfl), by (with_reducible repeat (first | apply Kd.R_alloc | apply Kd.R_drewN | apply Kd.R_drew)); exact HO108.out, by repeat (first | (with_reducible first | exact HB.out | apply aBl | apply pBd | apply dBl) | exact HB.out)⟩
  · rw [if_neg c2] at H
    exact absurd H (by simp)
def slRev.l0 : Nat → List Int → Int → Int → Option (List Int)
  | 0, _, _, _ => none
  | k + 1, x0, x2, x3 => if x2 < x3 then (if 0 ≤ x3 then (if x3 < (x0.length : Int) then (if 0 ≤ x2 then (if x2 < (x0.length : Int) then (slRev.l0 k ((x0.set (x2 : Int).toNat (rd x0 x3)).set (x3 : Int).toNat (rd x0 x2)) (wrap64 (x2 + 1)) (wrap64 (x3 - 1))) else (none)) else (none)) else (none)) else (none)) else (some x0)
def slRev.f (k : Nat) (l0 : List Int) : Option (List Int) := slRev.l0 k l0 0 (wrap64 ((l0.length : Int) - 1))
theorem slRev.mono_l : ∀ k, (∀ y0 y1 y2, LeO (slRev.l0 k y0 y1 y2) (slRev.l0 (k + 1) y0 y1 y2))
  | 0 => fun _ _ _ r h => by simp [slRev.l0] at h
  | k + 1 => by
    have ih0 := slRev.mono_l k
    · intro y0 y1 y2
      unfold slRev.l0
      repeat' first
      | (with_reducible exact ih0 _ _ _)
      | (with_reducible exact LeO.refl _)
      | (with_reducible exact LeO.none _)
      | (with_reducible refine LeO.ite ?_ ?_)
      | (with_reducible refine LeO.bind ?_ (fun _ => ?_))
      | exact ih0 _ _ _
      | exact LeO.none _
      | refine LeO.ite ?_ ?_
      | refine LeO.bind ?_ (fun _ => ?_)
theorem slRev.mono : ∀ a0 k, LeO (slRev.f k a0) (slRev.f (k + 1) a0) := by
  intro a0 k
  have ih0 := slRev.mono_l k
  unfold slRev.f
  repeat' first
      | (with_reducible exact ih0 _ _ _)
      | (with_reducible exact LeO.refl _)
      | (with_reducible exact LeO.none _)
      | (with_reducible refine LeO.ite ?_ ?_)
      | (with_reducible refine LeO.bind ?_ (fun _ => ?_))
      | exact ih0 _ _ _
      | exact LeO.none _
      | refine LeO.ite ?_ ?_
      | refine LeO.bind ?_ (fun _ => ?_)
def slRev.T3 : Bool × List (List Nat × List Nat) := (true, [([], []), ([], []), ([], []), ([], []), ([], []), ([], []), ([4, 5], [4, 5]), ([6], [6]), ([], []), ([], []), ([8, 9], [8, 9]), ([10], [10]), ([0, 1, 0, 1, 4, 5, 6, 7, 11], [0, 1]), ([12, 7, 0, 1, 4, 5, 6, 7, 11], [7, 12]), ([2, 3, 0, 1, 2, 3, 4, 5, 6, 7, 8, 9, 10, 11, 12, 13], [2, 3]), ([14, 11, 13, 0, 1, 2, 3, 4, 5, 6, 7, 8, 9, 10, 11, 12, 13], [11, 14])])
def slRev.B3 : List Nat := [0, 0, 0, 0, 0, 0, 48, 112, 0, 0, 768, 1792, 4083, 8179, 16383, 32767]
theorem slRev.tab3 : rtab .any (opsOf Try.f57 3) = slRev.T3 := by kernel_rfl
theorem slRev.bits3 : waitsOk slRev.T3.2 slRev.B3 = true := by kernel_rfl
set_option maxHeartbeats 8000000 in
set_option maxRecDepth 100000 in
theorem slRev.calls (k : Nat) (P0_ : Nat → Prop) (u9000_ : Value) (l0 : List Int) (r : List Int) (w0 w : World) (hB : Below w0.heap.size w0 w) (ho0 : Kd.R (Kd.int .u8) 5 w w0.heap.size P0_ u9000_ l0) (h : slRev.f k l0 = some r) :
    Calls Try.prog 57 #[u9000_] w fun e w' => e = .returned (.tuple #[]) ∧ Kd.R (Kd.int .u8) 5 w' w0.heap.size (fun k_ => (P0_ k_ ∨ w.heap.size ≤ k_)) u9000_ r ∧ Below w0.heap.size w0 w' ∧ Kept w w' (fun k_ => P0_ k_) := by
  have HO0 := AsZ.mk (show Kd.R (Kd.int .u8) 5 w w0.heap.size (fun k_ => (P0_ k_ ∨ w.heap.size ≤ k_)) u9000_ l0 from Kd.R_mono ho0 (fun k_ hk => (.inl hk)))
  have HK := AsZ.mk (Kept.refl w (fun k_ => P0_ k_))
  have HW0 := AsZ.mk hB.size
  have HB := AsZ.mk hB
  clear hB
  have H : (slRev.l0 k l0 0 (wrap64 ((l0.length : Int) - 1))) = some r := h
  clear h
  have H' := AsZ.mk H
  clear H
  obtain ⟨Ao2, co2, eo2⟩ := Kd.R_slice HO0.out
  subst eo2
  go_enter Try.func57, Try.ntmps57
  go_wp2
  go_loopg [2, 3] k (fun kq v2 v3 w' => ∃ (x0_1 : List Int) (x2_1 : Int) (x3_1 : Int), v2 = .int .i64 x2_1 ∧ v3 = .int .i64 x3_1 ∧ AsZ (slRev.l0 kq x0_1 x2_1 x3_1 = some r) ∧ AsZ (kq ≤ k) ∧ AsZ (Kd.R (Kd.int .u8) 5 w' w0.heap.size (fun k_ => (P0_ k_ ∨ w.heap.size ≤ k_)) (.slice Ao2 l0.length co2) x0_1) ∧ AsZ (Kept w w' (fun k_ => P0_ k_)) ∧ AsZ (Below w0.heap.size w0 w'))
  case atStart => exact ⟨(l0), (0), (wrap64 ((l0.length : Int) - 1)), (by first | rfl | (simp; done) | (simp [*]; done)), (by first | rfl | (simp; done) | (simp [*]; done)), H', ⟨Nat.le_refl _⟩, ⟨by (with_reducible repeat (first | apply Kd.R_alloc | apply Kd.R_drewN | apply Kd.R_drew)); exact HO0.out⟩, ⟨by repeat (first | (with_reducible first | exact HK.out | apply Kept.alloc | apply Kept.drewN | apply Kept.drew) | exact HK.out)⟩, ⟨by repeat (first | (with_reducible first | exact HB.out | apply aBl | apply pBd | apply dBl) | exact HB.out)⟩⟩
  case round =>
    clear H'
    try clear p2
    obtain ⟨x0_1, x2_1, x3_1, rfl, rfl, HA, HK1, HO_0, HK, HB⟩ := hrel
    have hl0_1 := (Kd.R_reads' HO_0.out).1
    rw [hl0_1] at HO_0
    (try simp only [hl0_1])
    cases gk with
    | zero => exact absurd HA.out (by simp [slRev.l0])
    | succ k1 =>
      have H := HA.out
      clear HA
      simp only [slRev.l0] at H
      by_cases c3 : x2_1 < x3_1
      · rw [if_pos c3] at H
        have c3b0 : decide (x2_1 < x3_1) = true := decide_eq_true c3
        clear c3
        by_cases c4 : 0 ≤ x3_1
        · rw [if_pos c4] at H
          have c4b0 : decide (0 ≤ x3_1) = true := decide_eq_true c4
          clear c4
          by_cases c5 : x3_1 < (x0_1.length : Int)
          · rw [if_pos c5] at H
            have c5b0 : decide (x3_1 < (x0_1.length : Int)) = true := decide_eq_true c5
            clear c5
            by_cases c6 : 0 ≤ x2_1
            · rw [if_pos c6] at H
              have c6b0 : decide (0 ≤ x2_1) = true := decide_eq_true c6
              clear c6
              by_cases c7 : x2_1 < (x0_1.length : Int)
              · rw [if_pos c7] at H
                have c7b0 : decide (x2_1 < (x0_1.length : Int)) = true := decide_eq_true c7
                clear c7
                obtain ⟨y111, hy111⟩ : ∃ y_ : List Int, y_ = (x0_1.set (x2_1 : Int).toNat (rd x0_1 x3_1)) := ⟨_, rfl⟩
                replace H : (slRev.l0 k1 (y111.set (x3_1 : Int).toNat (rd x0_1 x2_1)) (wrap64 (x2_1 + 1)) (wrap64 (x3_1 - 1))) = some r := by first | (rw [hy111]; with_reducible exact H) | (have H2_ := (Option.bind_some _ _).symm.trans H; rw [hy111]; with_reducible exact H2_) | (have H2_ := (Option.bind_some _ _).symm.trans H; with_reducible exact H2_) | with_reducible exact H | (rw [hy111]; exact H) | exact H
                have Ny111 := AsZ.mk hy111
                clear hy111
                obtain ⟨y112, hy112⟩ : ∃ y_ : List Int, y_ = (y111.set (x3_1 : Int).toNat (rd x0_1 x2_1)) := ⟨_, rfl⟩
                replace H : (slRev.l0 k1 y112 (wrap64 (x2_1 + 1)) (wrap64 (x3_1 - 1))) = some r := by first | (rw [hy112]; with_reducible exact H) | (have H2_ := (Option.bind_some _ _).symm.trans H; rw [hy112]; with_reducible exact H2_) | (have H2_ := (Option.bind_some _ _).symm.trans H; with_reducible exact H2_) | with_reducible exact H | (rw [hy112]; exact H) | exact H
                have Ny112 := AsZ.mk hy112
                clear hy112
                have H' := AsZ.mk H
                clear H
                try go_wp2
                have n0_ := AsZ.mk (Kd.R_drew HO_0.out)
                have n1_ := AsZ.mk (Kept.drew HK.out)
                have n2_ := AsZ.mk (dBl HB.out)
                clear HO_0
                clear HK
                clear HB
                have HO_0 := n0_
                have HK := n1_
                have HB := n2_
                clear n0_ n1_ n2_
                have p109 : 0 ≤ (x3_1 : Int) := of_decide_eq_true (by first | (with_reducible assumption) | assumption)
                have q109 : x3_1 < (x0_1.length : Int) := of_decide_eq_true (by first | (with_reducible assumption) | assumption)
                obtain ⟨ad109, e109, hx109_0⟩ := Kd.at_int (Kd.R_reads' HO_0.out).2.2 x3_1 p109 q109
                cases e109
                replace p109 := eq_true p109
                replace q109 := eq_true q109
                have p110 : 0 ≤ (x2_1 : Int) := of_decide_eq_true (by first | (with_reducible assumption) | assumption)
                have q110 : x2_1 < (x0_1.length : Int) := of_decide_eq_true (by first | (with_reducible assumption) | assumption)
                obtain ⟨ad110, e110, hx110_0⟩ := Kd.at_int (Kd.R_reads' HO_0.out).2.2 x2_1 p110 q110
                obtain rfl : ad109 = ad110 := (by injection e110)
                replace p110 := eq_true p110
                replace q110 := eq_true q110
                have p8 : 0 ≤ (x2_1 : Int) := of_decide_eq_true (by first | (with_reducible assumption) | assumption)
                have q8 : (x2_1 : Int) < ((x0_1.length : Int) : Int) := of_decide_eq_true (by first | (with_reducible assumption) | assumption)
                obtain ⟨go8, co8, eo8, gb8, gl8, cl8, HG8⟩ := Kd.R_form HO_0.out (by omega)
                (first | cases eo8 | (injection eo8 with ea_ en_ ec_; (first | subst ea_ | (injection ea_ with ea_; subst ea_)); subst ec_; clear en_))
                have GB8 := AsZ.mk gb8
                have GG8 := AsZ.mk HG8
                clear gb8 gl8 HG8
                have HMgo8 := AsZ.mk (show (P0_ go8 ∨ w.heap.size ≤ go8) from (HO_0.out.1 _ rfl))
                (first | simp only [add_plain] at hx109_0 | skip)
                (first | simp only [add_plain] at hx110_0 | skip)
                obtain ⟨hx8_0, hf8_0⟩ := Kd.R_celln 0 HO_0.out (x2_1 : Int) p8 q8
                replace p8 := eq_true p8
                replace q8 := eq_true q8
                have HP11 := Kd.R_putn HO_0.out (x2_1 : Int) (rd x0_1 x3_1)
                rw [← Ny111.out] at HP11
                have HQ11 := AsZ.mk HP11
                clear HP11
                have p9 : 0 ≤ (x3_1 : Int) := of_decide_eq_true (by first | (with_reducible assumption) | assumption)
                have q9 : (x3_1 : Int) < ((x0_1.length : Int) : Int) := of_decide_eq_true (by first | (with_reducible assumption) | assumption)
                obtain ⟨hx9_0, hf9_0⟩ := Kd.R_celln 0 HQ11.out (x3_1 : Int) p9 q9
                replace p9 := eq_true p9
                replace q9 := eq_true q9
                have HP12 := Kd.R_putn HQ11.out (x3_1 : Int) (rd x0_1 x2_1)
                rw [← Ny112.out] at HP12
                have HQ12 := AsZ.mk HP12
                clear HP12
                refine start_ (n := 16) (S := fun w' => w'.cell? ⟨go8, (x3_1).toNat, none⟩ = some (.int .u8 (rd x0_1 x3_1)) ∧ w'.cell? ⟨go8, (x2_1).toNat, none⟩ = some (.int .u8 (rd x0_1 x2_1))) (ds := [13, 15]) #[false, false, false, false, false, false, false, false, false, false, false, false, false, false, false, false] (by kernel_rfl) rfl rfl ⟨hx109_0, hx110_0⟩ (fun hHeld => ?_); refine with_tabW slRev.tab3 slRev.bits3 (fun HT_ HW_ => ?_)
                generalize wr.drew = w10 at HO_0 HK HB GG8 HQ11 HQ12 hf8_0 hf9_0 hx109_0 hx110_0 hx8_0 hx9_0 hHeld ⊢
                refine pure_ (i := 0) (N := some 14) (v := ?_) (a' := ?_) #[true, false, false, false, false, false, false, false, false, false, false, false, false, false, false, false] rfl rfl (any_of HT_.out (by kernel_rfl)) (fun _ _ _ h => h) (Or.inl ⟨by rfl, ?_⟩) ?_ ?_
                rotate_left
                · intro w'
                  go_simp
                  with_reducible rfl
                rotate_left
                · simp only [Act.put, lsA, lsB, lsC, i64_w, i32_w]
                  rfl
                refine pure_ (i := 1) (N := some 15) (v := ?_) (a' := ?_) #[true, true, false, false, false, false, false, false, false, false, false, false, false, false, false, false] rfl rfl (any_of HT_.out (by kernel_rfl)) (fun _ _ _ h => h) (Or.inl ⟨by rfl, ?_⟩) ?_ ?_
                rotate_left
                · intro w'
                  go_simp
                  with_reducible rfl
                rotate_left
                · simp only [Act.put, lsA, lsB, lsC, i64_w, i32_w]
                  rfl
                refine pure_ (i := 2) (N := some 16) (v := ?_) (a' := ?_) #[true, true, true, false, false, false, false, false, false, false, false, false, false, false, false, false] rfl rfl (any_of HT_.out (by kernel_rfl)) (fun _ _ _ h => h) (Or.inl ⟨by rfl, ?_⟩) ?_ ?_
                rotate_left
                · intro w'
                  go_simp
                  with_reducible rfl
                rotate_left
                · simp only [Act.put, lsA, lsB, lsC, i64_w, i32_w]
                  rfl
                refine pure_ (i := 3) (N := some 17) (v := ?_) (a' := ?_) #[true, true, true, true, false, false, false, false, false, false, false, false, false, false, false, false] rfl rfl (any_of HT_.out (by kernel_rfl)) (fun _ _ _ h => h) (Or.inl ⟨by rfl, ?_⟩) ?_ ?_
                rotate_left
                · intro w'
                  go_simp
                  with_reducible rfl
                rotate_left
                · simp only [Act.put, lsA, lsB, lsC, i64_w, i32_w]
                  rfl
                refine pure_ (i := 4) (N := some 18) (v := ?_) (a' := ?_) #[true, true, true, true, true, false, false, false, false, false, false, false, false, false, false, false] rfl rfl (any_of HT_.out (by kernel_rfl)) (fun _ _ _ h => h) (Or.inl ⟨by rfl, ?_⟩) ?_ ?_
                rotate_left
                · intro w'
                  go_simp
                  with_reducible rfl
                rotate_left
                · simp only [Act.put, lsA, lsB, lsC, i64_w, i32_w]
                  rfl
                refine pure_ (i := 5) (N := some 19) (v := ?_) (a' := ?_) #[true, true, true, true, true, true, false, false, false, false, false, false, false, false, false, false] rfl rfl (any_of HT_.out (by kernel_rfl)) (fun _ _ _ h => h) (Or.inl ⟨by rfl, ?_⟩) ?_ ?_
                rotate_left
                · intro w'
                  go_simp
                  with_reducible rfl
                rotate_left
                · simp only [Act.put, lsA, lsB, lsC, i64_w, i32_w]
                  rfl
                refine pure_ (i := 6) (N := some 20) (v := ?_) (a' := ?_) #[true, true, true, true, true, true, true, false, false, false, false, false, false, false, false, false] rfl rfl (any_of HT_.out (by kernel_rfl)) (fun _ _ _ h => h) (Or.inl ⟨by rfl, ?_⟩) ?_ ?_
                rotate_left
                · intro w'
                  go_simp
                  with_reducible rfl
                rotate_left
                · simp only [Act.put, lsA, lsB, lsC, i64_w, i32_w]
                  rfl
                refine pure_ (i := 8) (N := some 22) (v := ?_) (a' := ?_) #[true, true, true, true, true, true, true, false, true, false, false, false, false, false, false, false] rfl rfl (any_of HT_.out (by kernel_rfl)) (fun _ _ _ h => h) (Or.inl ⟨by rfl, ?_⟩) ?_ ?_
                rotate_left
                · intro w'
                  go_simp
                  with_reducible rfl
                rotate_left
                · simp only [Act.put, lsA, lsB, lsC, i64_w, i32_w]
                  rfl
                refine pure_ (i := 9) (N := some 23) (v := ?_) (a' := ?_) #[true, true, true, true, true, true, true, false, true, true, false, false, false, false, false, false] rfl rfl (any_of HT_.out (by kernel_rfl)) (fun _ _ _ h => h) (Or.inl ⟨by rfl, ?_⟩) ?_ ?_
                rotate_left
                · intro w'
                  go_simp
                  with_reducible rfl
                rotate_left
                · simp only [Act.put, lsA, lsB, lsC, i64_w, i32_w]
                  rfl
                refine pure_ (i := 10) (N := some 24) (v := ?_) (a' := ?_) #[true, true, true, true, true, true, true, false, true, true, true, false, false, false, false, false] rfl rfl (any_of HT_.out (by kernel_rfl)) (fun _ _ _ h => h) (Or.inl ⟨by rfl, ?_⟩) ?_ ?_
                rotate_left
                · intro w'
                  go_simp
                  with_reducible rfl
                rotate_left
                · simp only [Act.put, lsA, lsB, lsC, i64_w, i32_w]
                  rfl
                refine take_ (i := 7) (N := some 21) (v := ?_) (a' := ?_) #[true, true, true, true, true, true, true, true, true, true, true, false, false, false, false, false] rfl rfl (take_ofW HT_.out HW_.out (by kernel_rfl)) (fun _ _ _ h => h) (Or.inl ⟨by rfl, ?_⟩) hHeld ?_ ?_
                rotate_left
                · rintro w' ⟨s0, s1⟩
                  go_simp
                  with_reducible rfl
                rotate_left
                · simp only [Act.put, lsA, lsB, lsC, i64_w, i32_w]
                  rfl
                refine take_ (i := 11) (N := some 25) (v := ?_) (a' := ?_) #[true, true, true, true, true, true, true, true, true, true, true, true, false, false, false, false] rfl rfl (take_ofW HT_.out HW_.out (by kernel_rfl)) (fun _ _ _ h => h) (Or.inl ⟨by rfl, ?_⟩) hHeld ?_ ?_
                rotate_left
                · rintro w' ⟨s0, s1⟩
                  go_simp
                  with_reducible rfl
                rotate_left
                · simp only [Act.put, lsA, lsB, lsC, i64_w, i32_w]
                  rfl
                refine pure_ (i := 12) (N := some 26) (v := ?_) (a' := ?_) #[true, true, true, true, true, true, true, true, true, true, true, true, true, false, false, false] rfl rfl (any_of HT_.out (by kernel_rfl)) (fun _ _ _ h => h) (Or.inl ⟨by rfl, ?_⟩) ?_ ?_
                rotate_left
                · intro w'
                  go_simp
                  with_reducible rfl
                rotate_left
                · simp only [Act.put, lsA, lsB, lsC, i64_w, i32_w]
                  rfl
                refine last_ (i := 13) (N := none) #[true, true, true, true, true, true, true, true, true, true, true, true, true, true, false, false] rfl rfl (one_of HT_.out (by kernel_rfl)) (by decide) (fun K hK => ?_)
                refine skip_ (w1 := ?_) (by rfl) rfl ?_ ?_
                rotate_left
                · go_simp
                  rfl
                refine hK.out _ _ ?_
                clear hK K
                refine pure_ (i := 14) (N := some 27) (v := ?_) (a' := ?_) #[true, true, true, true, true, true, true, true, true, true, true, true, true, true, true, false] rfl rfl (any_of HT_.out (by kernel_rfl)) (fun _ _ _ h => h) (Or.inl ⟨by rfl, ?_⟩) ?_ ?_
                rotate_left
                · intro w'
                  go_simp
                  with_reducible rfl
                rotate_left
                · simp only [Act.put, lsA, lsB, lsC, i64_w, i32_w]
                  rfl
                refine last_ (i := 15) (N := none) #[true, true, true, true, true, true, true, true, true, true, true, true, true, true, true, true] rfl rfl (one_of HT_.out (by kernel_rfl)) (by decide) (fun K hK => ?_)
                refine skip_ (w1 := ?_) (by rfl) rfl ?_ ?_
                rotate_left
                · go_simp
                  rfl
                refine hK.out _ _ ?_
                clear hK K
                refine done_ (done_of HT_.out (by kernel_rfl)) ?_
                try go_wp2
                (try simp only [← hl0_1])
                go_roundg k1
                case measure => have := HK1.out; omega
                case rel => exact ⟨(y112), (wrap64 (x2_1 + 1)), (wrap64 (x3_1 - 1)), (by first | rfl | (simp; done) | (simp [*]; done)), (by first | rfl | (simp; done) | (simp [*]; done)), H', ⟨by have := HK1.out; omega⟩, ⟨by (try simp only [hl0_1]); (with_reducible repeat (first | apply Kd.R_alloc | apply Kd.R_drewN | apply Kd.R_drew)); exact HQ12.out⟩, ⟨by repeat (first | (with_reducible first | exact HK.out | apply Kept.alloc | apply Kept.drewN | apply Kept.drew | refine Kept.setCell ?_ HMgo8.out _ | refine Kept.setCell ?_ HMgo8.out _) | exact HK.out)⟩, ⟨by repeat (first | (with_reducible first | exact HB.out | apply aBl | apply pBd | apply dBl | refine sBl ?_ GB8.out | refine sBl ?_ GB8.out) | exact HB.out)⟩⟩
              · rw [if_neg c7] at H
                exact absurd H (by simp)
            · rw [if_neg c6] at H
              exact absurd H (by simp)
          · rw [if_neg c5] at H
            exact absurd H (by simp)
        · rw [if_neg c4] at H
          exact absurd H (by simp)
      · rw [if_neg c3] at H
        have c3b0 : decide (x2_1 < x3_1) = false := decide_eq_false c3
        clear c3
        obtain rfl := Option.some.inj H
        go_wp2
        first | go_end0 | ((try simp only [Exit.inBlock, Exit.then]); refine bodyPost_ret (results_none rfl _ _ _) rfl ?_)
        exact ⟨by first | rfl | exact nEm _ | exact eEm _ | (simp [eWn, eWs] <;> rfl) | (simp [*, eWn, eWs] <;> rfl), (by first | exact (by (with_reducible repeat (first | apply Kd.R_alloc | apply Kd.R_drewN | apply Kd.R_drew)); exact HO_0.out) | (simp only [hl0_1]; exact (by (with_reducible repeat (first | apply Kd.R_alloc | apply Kd.R_drewN | apply Kd.R_drew)); exact HO_0.out))), by repeat (first | (with_reducible first | exact HB.out | apply aBl | apply pBd | apply dBl) | exact HB.out), by repeat (first | (with_reducible first | exact HK.out | apply Kept.alloc | apply Kept.drewN | apply Kept.drew) | exact HK.out)⟩
mutual
def nums_Print.j0 : Nat → Int → ByteArray → Option (ByteArray)
  | 0, _, _ => none
  | k + 1, x3, x4 => nums_Print.l0 k x3 x4 ([] : List Int)
def nums_Print.l0 : Nat → Int → ByteArray → List Int → Option (ByteArray)
  | 0, _, _, _ => none
  | k + 1, x3, x4, x5 => if x5.length < 140737488355328 then ((some (x5 ++ [(IntKind.u64.wrap (48 + (Int.tmod x3 10))) % 256] : List Int)).bind fun y113 => (if (IntKind.u64.wrap (Int.tdiv x3 10)) = 0 then ((slRev.f k y113).bind fun t116 => (if x4.size + ((strOfNums t116).size) ≤ 9223372036854775807 then (some (x4 ++ (strOfNums t116))) else (none))) else (nums_Print.l0 k (IntKind.u64.wrap (Int.tdiv x3 10)) x4 y113))) else (none)
end
def nums_Print.f (k : Nat) (a0 : Int) : Option (ByteArray) := if a0 < 0 then (nums_Print.j0 k (IntKind.u64.wrap (-(IntKind.u64.wrap (a0)))) (⟨#[45]⟩ : ByteArray)) else (nums_Print.j0 k (IntKind.u64.wrap (a0)) (⟨#[]⟩ : ByteArray))
theorem nums_Print.mono_l : ∀ k, (∀ y0 y1, LeO (nums_Print.j0 k y0 y1) (nums_Print.j0 (k + 1) y0 y1)) ∧ (∀ y0 y1 y2, LeO (nums_Print.l0 k y0 y1 y2) (nums_Print.l0 (k + 1) y0 y1 y2))
  | 0 => ⟨fun _ _ r h => by simp [nums_Print.j0] at h, fun _ _ _ r h => by simp [nums_Print.l0] at h⟩
  | k + 1 => by
    obtain ⟨ih0, ih1⟩ := nums_Print.mono_l k
    refine ⟨?_, ?_⟩
    · intro y0 y1
      unfold nums_Print.j0
      repeat' first
      | (with_reducible exact ih0 _ _)
      | (with_reducible exact ih1 _ _ _)
      | (with_reducible exact slRev.mono _ _)
      | (with_reducible exact LeO.refl _)
      | (with_reducible exact LeO.none _)
      | (with_reducible refine LeO.ite ?_ ?_)
      | (with_reducible refine LeO.bind ?_ (fun _ => ?_))
      | exact ih0 _ _
      | exact ih1 _ _ _
      | exact slRev.mono _ _
      | exact LeO.none _
      | refine LeO.ite ?_ ?_
      | refine LeO.bind ?_ (fun _ => ?_)
    · intro y0 y1 y2
      unfold nums_Print.l0
      repeat' first
      | (with_reducible exact ih0 _ _)
      | (with_reducible exact ih1 _ _ _)
      | (with_reducible exact slRev.mono _ _)
      | (with_reducible exact LeO.refl _)
      | (with_reducible exact LeO.none _)
      | (with_reducible refine LeO.ite ?_ ?_)
      | (with_reducible refine LeO.bind ?_ (fun _ => ?_))
      | exact ih0 _ _
      | exact ih1 _ _ _
      | exact slRev.mono _ _
      | exact LeO.none _
      | refine LeO.ite ?_ ?_
      | refine LeO.bind ?_ (fun _ => ?_)
theorem nums_Print.mono : ∀ a0 k, LeO (nums_Print.f k a0) (nums_Print.f (k + 1) a0) := by
  intro a0 k
  obtain ⟨ih0, ih1⟩ := nums_Print.mono_l k
  unfold nums_Print.f
  repeat' first
      | (with_reducible exact ih0 _ _)
      | (with_reducible exact ih1 _ _ _)
      | (with_reducible exact slRev.mono _ _)
      | (with_reducible exact LeO.refl _)
      | (with_reducible exact LeO.none _)
      | (with_reducible refine LeO.ite ?_ ?_)
      | (with_reducible refine LeO.bind ?_ (fun _ => ?_))
      | exact ih0 _ _
      | exact ih1 _ _ _
      | exact slRev.mono _ _
      | exact LeO.none _
      | refine LeO.ite ?_ ?_
      | refine LeO.bind ?_ (fun _ => ?_)
set_option maxHeartbeats 8000000 in
set_option maxRecDepth 100000 in
theorem nums_Print.calls (k : Nat) (a0 : Int) (r : ByteArray) (w : World) (h : nums_Print.f k a0 = some r) :
    Calls Try.prog 50 #[.int .i64 a0] w fun e w' => e = .returned (.string r) ∧ Below w.heap.size w w' := by
  have HB := AsZ.mk (Below.refl w.heap.size w)
  have H : (if a0 < 0 then (nums_Print.j0 k (IntKind.u64.wrap (-(IntKind.u64.wrap (a0)))) (⟨#[45]⟩ : ByteArray)) else (nums_Print.j0 k (IntKind.u64.wrap (a0)) (⟨#[]⟩ : ByteArray))) = some r := h
  clear h
  have HC2 := AsZ.mk H
  clear H
  go_enter Try.func50, Try.ntmps50
  go_upto_if 9 with (fail)
  go_cut [3, 4] (fun v3 v4 wc => ∃ (kq : Nat) (x3_1 : Int) (x4_1 : ByteArray), v3 = .int .u64 x3_1 ∧ v4 = .string x4_1 ∧ AsZ (nums_Print.j0 kq x3_1 x4_1 = some r) ∧ AsZ (kq ≤ k) ∧ AsZ (Below w.heap.size w wc))
  case first =>
    have H := HC2.out
    clear HC2
    by_cases c3 : a0 < 0
    · rw [if_pos c3] at H
      have c3b0 : decide (a0 < 0) = true := decide_eq_true c3
      clear c3
      (first | rw [c3b0] | (simp only [i64_w, i32_w]; rw [c3b0]) | skip)
      have H' := AsZ.mk H
      clear H
      go_wp2
      go_meet
      case rel => exact ⟨_, (IntKind.u64.wrap (-(IntKind.u64.wrap (a0)))), ((⟨#[45]⟩ : ByteArray)), (by first | rfl | (simp; done) | (simp [*]; done)), (by first | rfl | (simp; done) | (simp [*]; done)), H', ⟨by first | omega | exact Nat.le_refl _⟩, ⟨by repeat (first | (with_reducible first | exact HB.out | apply aBl | apply pBd | apply dBl) | exact HB.out)⟩⟩
    · rw [if_neg c3] at H
      have c3b0 : decide (a0 < 0) = false := decide_eq_false c3
      clear c3
      (first | rw [c3b0] | (simp only [i64_w, i32_w]; rw [c3b0]) | skip)
      have H' := AsZ.mk H
      clear H
      go_wp2
      go_meet
      case rel => exact ⟨_, (IntKind.u64.wrap (a0)), ((⟨#[]⟩ : ByteArray)), (by first | rfl | (simp; done) | (simp [*]; done)), (by first | rfl | (simp; done) | (simp [*]; done)), H', ⟨by first | omega | exact Nat.le_refl _⟩, ⟨by repeat (first | (with_reducible first | exact HB.out | apply aBl | apply pBd | apply dBl) | exact HB.out)⟩⟩
  case rest =>
    clear HC2
    try clear p2
    try clear c3
    try clear c3b0
    obtain ⟨kq, x3_1, x4_1, rfl, rfl, HA, HJ1, HB⟩ := hcut
    cases kq with
    | zero => exact absurd HA.out (by simp [nums_Print.j0])
    | succ kj1 =>
      have H := HA.out
      clear HA
      simp only [nums_Print.j0] at H
      have H' := AsZ.mk H
      clear H
      go_wp2
      go_loopg [3, 5] kj1 (fun kq v3 v5 w' => ∃ (x3_2 : Int) (x5_2 : List Int), v3 = .int .u64 x3_2 ∧ AsZ (nums_Print.l0 kq x3_2 x4_1 x5_2 = some r) ∧ AsZ (kq ≤ kj1) ∧ AsZ (Kd.R (Kd.int .u8) 5 w' w.heap.size (fun _ => True) v5 x5_2) ∧ AsZ (Below w.heap.size w w'))
      case atStart => exact ⟨(x3_1), (([] : List Int)), (by first | rfl | (simp; done) | (simp [*]; done)), H', ⟨Nat.le_refl _⟩, ⟨by first | exact Kd.R_nil _ _ _ _ _ | exact Kd.N_nil _ _ _ _ _ | exact Kd.V_nil _ _ _ _ _ | exact Kd.Q_nil _ _ _ _ _ | exact Kd.S_nil _ _ _ _ _⟩, ⟨by repeat (first | (with_reducible first | exact HB.out | apply aBl | apply pBd | apply dBl) | exact HB.out)⟩⟩
      case round =>
        clear H'
        try clear p2
        try clear c3
        try clear c3b0
        try clear p2
        obtain ⟨x3_2, x5_2, rfl, HA, HK2, HO_5, HB⟩ := hrel
        cases gk with
        | zero => exact absurd HA.out (by simp [nums_Print.l0])
        | succ k2 =>
          have H := HA.out
          clear HA
          simp only [nums_Print.l0] at H
          by_cases c4 : x5_2.length < 140737488355328
          · rw [if_pos c4] at H
            have LMc4 := AsZ.mk c4
            clear c4
            obtain ⟨y113, hy113⟩ : ∃ y_ : List Int, y_ = (x5_2 ++ [(IntKind.u64.wrap (48 + (Int.tmod x3_2 10))) % 256]) := ⟨_, rfl⟩
            replace H : (if (IntKind.u64.wrap (Int.tdiv x3_2 10)) = 0 then ((slRev.f k2 y113).bind fun t116 => (if x4_1.size + ((strOfNums t116).size) ≤ 9223372036854775807 then (some (x4_1 ++ (strOfNums t116))) else (none))) else (nums_Print.l0 k2 (IntKind.u64.wrap (Int.tdiv x3_2 10)) x4_1 y113)) = some r := by first | (rw [hy113]; with_reducible exact H) | (have H2_ := (Option.bind_some _ _).symm.trans H; rw [hy113]; with_reducible exact H2_) | (have H2_ := (Option.bind_some _ _).symm.trans H; with_reducible exact H2_) | with_reducible exact H | (rw [hy113]; exact H) | exact H
            have Ny113 := AsZ.mk hy113
            clear hy113
            by_cases c5 : (IntKind.u64.wrap (Int.tdiv x3_2 10)) = 0
            · rw [if_pos c5] at H
              have c5b0 : ((IntKind.u64.wrap (Int.tdiv x3_2 10)) == 0) = true := beq_iff_eq.mpr c5
              have c5b1 : ((IntKind.u64.wrap (Int.tdiv x3_2 10)) != 0) = false := bne_eq_false_iff_eq.mpr c5
              clear c5
              replace H := Option.bind_eq_some_iff.mp H
              obtain ⟨t116, A60, H⟩ := H
              replace H : (if x4_1.size + ((strOfNums t116).size) ≤ 9223372036854775807 then (some (x4_1 ++ (strOfNums t116))) else (none)) = some r := H
              have A6 := AsZ.mk A60
              clear A60
              by_cases c7 : x4_1.size + ((strOfNums t116).size) ≤ 9223372036854775807
              · rw [if_pos c7] at H
                have c7b0 := eq_true c7
                have c7b1 : decide (x4_1.size + ((strOfNums t116).size) ≤ 9223372036854775807) = true := decide_eq_true c7
                try have c7b2 : (9223372036854775807 < x4_1.size + ((strOfNums t116).size)) = False := eq_false (Nat.not_lt.2 c7)
                obtain rfl := Option.some.inj H
                go_wp2_with (first | ((with_reducible refine gate_builtin (b := .append) (xs := #[.tmp 12, .tmp 17]) rfl ?_); at_builtin; refine Kd.R_append (Kd.int .u8) (w0 := w) w.heap.size rfl (.tmp 12) (.tmp 17) 38 5 (.int .u8 0) 1 rfl Try.underlying38 info5 rfl (by decide) (by omega) u5 x5_2 ((IntKind.u64.wrap (48 + (Int.tmod x3_2 10))) % 256) [.int .u8 ((IntKind.u64.wrap (48 + (Int.tmod x3_2 10))) % 256)] (fun _ => True) (fun _ => False) rfl rfl ?aP (fun _ hk => hk.elim) ?aF ?aO ?aB ?aS ?aL ?_; (case aP => exact rfl); (case aB => exact (by repeat (first | (with_reducible first | exact HB.out | apply aBl | apply pBd | apply dBl) | exact HB.out))); (case aF => exact (fun _ _ => trivial)); (case aO => exact (by (with_reducible repeat (first | apply Kd.R_alloc | apply Kd.R_drewN | apply Kd.R_drew)); exact HO_5.out)); (case aS => exact (zBl (by repeat (first | (with_reducible first | exact HB.out | apply aBl | apply pBd | apply dBl) | exact HB.out)))); (case aL => have := LMc4.out; omega); intro v114 w8 ho hb hg hat; rw [← Ny113.out] at ho; have n0_ := AsZ.mk (hb); have n1_ := AsZ.mk (ho); clear HB; clear HO_5; have HB := n0_; have HO115 := n1_; clear n0_ n1_; clear ho hb hg hat; obtain ⟨Ao9, co9, eo9⟩ := Kd.R_slice HO115.out; subst eo9) | ((with_reducible refine gCa (f := 57) rfl ?_); refine gLl (some 24) rfl rfl Try.func57 (by kernel_rfl) rfl #[.slice Ao9 y113.length co9] rfl (by (try simp only [lsD, lsE, lsF]); first | done | rfl | (simp only [lsG, lsH]; rfl)) ?_; (with_reducible refine (slRev.calls k2 (fun k_ => some k_ = (.slice Ao9 y113.length co9 : Value).ownBlock) (.slice Ao9 y113.length co9) y113 t116 w _ ?side1 ?side2 A6.out).mono ?_); (case side1 => repeat (first | (with_reducible first | exact HB.out | apply aBl | apply pBd | apply dBl) | exact HB.out)); (case side2 => exact Kd.R_tight rfl HO115.out); rintro e w10 ⟨rfl, hy0, hb, hkp⟩; refine ⟨_, rfl, ?_⟩; have n0_ := AsZ.mk (Kd.R_reok rfl hy0 (fun k_ e_ => HO115.out.1 k_ e_)); have n1_ := AsZ.mk (hb); clear HO115; clear HB; have HO115 := n0_; have HB := n1_; clear n0_ n1_; (try clear hb); (try clear hkp); (try clear hy0); have hcv11 := own_string (P := Try.prog) Try.underlying38 Try.underlying5 Try.underlying9 (Kd.own_of_R HO115.out)))
                go_ret
                exact ⟨by first | rfl | exact nEm _ | exact eEm _ | (simp [eWn, eWs] <;> rfl) | (simp [*, eWn, eWs] <;> rfl), by repeat (first | (with_reducible first | exact HB.out | apply aBl | apply pBd | apply dBl) | exact HB.out)⟩
              · rw [if_neg c7] at H
                exact absurd H (by simp)
            · rw [if_neg c5] at H
              have c5b0 : ((IntKind.u64.wrap (Int.tdiv x3_2 10)) == 0) = false := beq_eq_false_iff_ne.mpr c5
              have c5b1 : ((IntKind.u64.wrap (Int.tdiv x3_2 10)) != 0) = true := bne_iff_ne.mpr c5
              have H' := AsZ.mk H
              clear H
              go_wp2_with (first | ((with_reducible refine gate_builtin (b := .append) (xs := #[.tmp 12, .tmp 17]) rfl ?_); at_builtin; refine Kd.R_append (Kd.int .u8) (w0 := w) w.heap.size rfl (.tmp 12) (.tmp 17) 38 5 (.int .u8 0) 1 rfl Try.underlying38 info5 rfl (by decide) (by omega) u5 x5_2 ((IntKind.u64.wrap (48 + (Int.tmod x3_2 10))) % 256) [.int .u8 ((IntKind.u64.wrap (48 + (Int.tmod x3_2 10))) % 256)] (fun _ => True) (fun _ => False) rfl rfl ?aP (fun _ hk => hk.elim) ?aF ?aO ?aB ?aS ?aL ?_; (case aP => exact rfl); (case aB => exact (by repeat (first | (with_reducible first | exact HB.out | apply aBl | apply pBd | apply dBl) | exact HB.out))); (case aF => exact (fun _ _ => trivial)); (case aO => exact (by (with_reducible repeat (first | apply Kd.R_alloc | apply Kd.R_drewN | apply Kd.R_drew)); exact HO_5.out)); (case aS => exact (zBl (by repeat (first | (with_reducible first | exact HB.out | apply aBl | apply pBd | apply dBl) | exact HB.out)))); (case aL => have := LMc4.out; omega); intro v114 w12 ho hb hg hat; rw [← Ny113.out] at ho; have n0_ := AsZ.mk (hb); have n1_ := AsZ.mk (ho); clear HB; clear HO_5; have HB := n0_; have HO115 := n1_; clear n0_ n1_; clear ho hb hg hat))
              go_roundg k2
              case measure => have := HJ1.out; have := HK2.out; omega
              case rel => exact ⟨(IntKind.u64.wrap (Int.tdiv x3_2 10)), (y113), (by first | rfl | (simp; done) | (simp [*]; done)), H', ⟨by have := HJ1.out; have := HK2.out; omega⟩, ⟨by (with_reducible repeat (first | apply Kd.R_alloc | apply Kd.R_drewN | apply Kd.R_drew)); exact HO115.out⟩, ⟨by repeat (first | (with_reducible first | exact HB.out | apply aBl | apply pBd | apply dBl) | exact HB.out)⟩⟩
          · rw [if_neg c4] at H
            exact absurd H (by simp)
def span_Right.f (a0_0 : Int) (a0_1 : Int) : Option (Bool) := if a0_0 ≥ 0 then (if a0_0 < a0_1 then (some (decide (a0_1 ≤ 4611686018427387903))) else (some false)) else (some false)
set_option maxHeartbeats 8000000 in
set_option maxRecDepth 100000 in
theorem span_Right.calls (a0_0 : Int) (a0_1 : Int) (r : Bool) (w : World) (h : span_Right.f a0_0 a0_1 = some r) :
    Calls Try.prog 42 #[.agg #[.int .i64 a0_0, .int .i64 a0_1]] w fun e w' => e = .returned (.bool r) ∧ Below w.heap.size w w' := by
  have hu30 := Try.underlying30
  have HB := AsZ.mk (Below.refl w.heap.size w)
  have H : (if a0_0 ≥ 0 then (if a0_0 < a0_1 then (some (decide (a0_1 ≤ 4611686018427387903))) else (some false)) else (some false)) = some r := h
  clear h
  by_cases c2 : a0_0 ≥ 0
  · rw [if_pos c2] at H
    have c2b0 : decide (0 ≤ a0_0) = true := decide_eq_true c2
    clear c2
    by_cases c3 : a0_0 < a0_1
    · rw [if_pos c3] at H
      have c3b0 : decide (a0_0 < a0_1) = true := decide_eq_true c3
      clear c3
      obtain rfl := Option.some.inj H
      go_enter Try.func42, Try.ntmps42
      go_wp2_with (first | ((with_reducible refine gDs (N := 1) rfl ?_); refine bEv ?hg (N := 1) ?hd (cs := #[.int .i64 a0_0, .int .i64 a0_1]) (t := 30) ?hr ?_; (case hd => rfl); (case hg => rfl); (case hr => first | (go_simp; done) | (go_simp; rfl)); intro gb117 hg w4 hbox hb; have n0_ := AsZ.mk (tBl (by repeat (first | (with_reducible first | exact HB.out | apply aBl | apply pBd | apply dBl) | exact HB.out)) hb); have n1_ := AsZ.mk (hbox); have n2_ := AsZ.mk ((by rw [hg]; exact (zBl (by repeat (first | (with_reducible first | exact HB.out | apply aBl | apply pBd | apply dBl) | exact HB.out))) : w.heap.size ≤ gb117)); have n3_ := AsZ.mk ((by rw [hg]; exact (zBl (by repeat (first | (with_reducible first | exact HB.out | apply aBl | apply pBd | apply dBl) | exact HB.out))) : w.heap.size ≤ gb117)); clear HB; have HB := n0_; have BK117 := n1_; have GW117 := n2_; have GE117 := n3_; clear n0_ n1_ n2_ n3_; clear hb hbox hg; obtain ⟨hcz5_0, hcz5_1⟩ := celN2 BK117.out; obtain ⟨hfz5_0, hfz5_1⟩ := fzN2 BK117.out))
      go_ret
      exact ⟨by first | rfl | exact nEm _ | exact eEm _ | (simp [eWn, eWs] <;> rfl) | (simp [*, eWn, eWs] <;> rfl), by repeat (first | (with_reducible first | exact HB.out | apply aBl | apply pBd | apply dBl | refine sBl ?_ GE117.out) | exact HB.out)⟩
    · rw [if_neg c3] at H
      have c3b0 : decide (a0_0 < a0_1) = false := decide_eq_false c3
      clear c3
      obtain rfl := Option.some.inj H
      go_enter Try.func42, Try.ntmps42
      go_wp2_with (first | ((with_reducible refine gDs (N := 1) rfl ?_); refine bEv ?hg (N := 1) ?hd (cs := #[.int .i64 a0_0, .int .i64 a0_1]) (t := 30) ?hr ?_; (case hd => rfl); (case hg => rfl); (case hr => first | (go_simp; done) | (go_simp; rfl)); intro gb117 hg w6 hbox hb; have n0_ := AsZ.mk (tBl (by repeat (first | (with_reducible first | exact HB.out | apply aBl | apply pBd | apply dBl) | exact HB.out)) hb); have n1_ := AsZ.mk (hbox); have n2_ := AsZ.mk ((by rw [hg]; exact (zBl (by repeat (first | (with_reducible first | exact HB.out | apply aBl | apply pBd | apply dBl) | exact HB.out))) : w.heap.size ≤ gb117)); have n3_ := AsZ.mk ((by rw [hg]; exact (zBl (by repeat (first | (with_reducible first | exact HB.out | apply aBl | apply pBd | apply dBl) | exact HB.out))) : w.heap.size ≤ gb117)); clear HB; have HB := n0_; have BK117 := n1_; have GW117 := n2_; have GE117 := n3_; clear n0_ n1_ n2_ n3_; clear hb hbox hg; obtain ⟨hcz7_0, hcz7_1⟩ := celN2 BK117.out; obtain ⟨hfz7_0, hfz7_1⟩ := fzN2 BK117.out))
      go_ret
      exact ⟨by first | rfl | exact nEm _ | exact eEm _ | (simp [eWn, eWs] <;> rfl) | (simp [*, eWn, eWs] <;> rfl), by repeat (first | (with_reducible first | exact HB.out | apply aBl | apply pBd | apply dBl | refine sBl ?_ GE117.out) | exact HB.out)⟩
  · rw [if_neg c2] at H
    have c2b0 : decide (0 ≤ a0_0) = false := decide_eq_false c2
    clear c2
    obtain rfl := Option.some.inj H
    go_enter Try.func42, Try.ntmps42
    go_wp2_with (first | ((with_reducible refine gDs (N := 1) rfl ?_); refine bEv ?hg (N := 1) ?hd (cs := #[.int .i64 a0_0, .int .i64 a0_1]) (t := 30) ?hr ?_; (case hd => rfl); (case hg => rfl); (case hr => first | (go_simp; done) | (go_simp; rfl)); intro gb117 hg w8 hbox hb; have n0_ := AsZ.mk (tBl (by repeat (first | (with_reducible first | exact HB.out | apply aBl | apply pBd | apply dBl) | exact HB.out)) hb); have n1_ := AsZ.mk (hbox); have n2_ := AsZ.mk ((by rw [hg]; exact (zBl (by repeat (first | (with_reducible first | exact HB.out | apply aBl | apply pBd | apply dBl) | exact HB.out))) : w.heap.size ≤ gb117)); have n3_ := AsZ.mk ((by rw [hg]; exact (zBl (by repeat (first | (with_reducible first | exact HB.out | apply aBl | apply pBd | apply dBl) | exact HB.out))) : w.heap.size ≤ gb117)); clear HB; have HB := n0_; have BK117 := n1_; have GW117 := n2_; have GE117 := n3_; clear n0_ n1_ n2_ n3_; clear hb hbox hg; obtain ⟨hcz9_0, hcz9_1⟩ := celN2 BK117.out; obtain ⟨hfz9_0, hfz9_1⟩ := fzN2 BK117.out))
    go_ret
    exact ⟨by first | rfl | exact nEm _ | exact eEm _ | (simp [eWn, eWs] <;> rfl) | (simp [*, eWn, eWs] <;> rfl), by repeat (first | (with_reducible first | exact HB.out | apply aBl | apply pBd | apply dBl | refine sBl ?_ GE117.out) | exact HB.out)⟩
def nums_Fits.f (a0 : Int) (a1 : Int) (a2 : Int) : Option (Bool) := if a0 ≥ a1 then (some (decide (a0 ≤ a2))) else (some false)
set_option maxHeartbeats 8000000 in
set_option maxRecDepth 100000 in
theorem nums_Fits.calls (a0 : Int) (a1 : Int) (a2 : Int) (r : Bool) (w : World) (h : nums_Fits.f a0 a1 a2 = some r) :
    Calls Try.prog 56 #[.int .i64 a0, .int .i64 a1, .int .i64 a2] w fun e w' => e = .returned (.bool r) ∧ Drawn0 w w' := by
  have H : (if a0 ≥ a1 then (some (decide (a0 ≤ a2))) else (some false)) = some r := h
  clear h
  by_cases c4 : a0 ≥ a1
  · rw [if_pos c4] at H
    have c4b0 : decide (a1 ≤ a0) = true := decide_eq_true c4
    clear c4
    obtain rfl := Option.some.inj H
    go_enter Try.func56, Try.ntmps56
    go_wp2
    go_ret
    exact ⟨by first | rfl | (simp; done) | (simp [*]; done) | exact nEm _ | exact eEm _, by repeat (first | exact Drawn0.refl _ | apply Drawn0.step)⟩
  · rw [if_neg c4] at H
    have c4b0 : decide (a1 ≤ a0) = false := decide_eq_false c4
    clear c4
    obtain rfl := Option.some.inj H
    go_enter Try.func56, Try.ntmps56
    go_wp2
    go_ret
    exact ⟨by first | rfl | (simp; done) | (simp [*]; done) | exact nEm _ | exact eEm _, by repeat (first | exact Drawn0.refl _ | apply Drawn0.step)⟩
end Go.Proofs.Ytpphnjmppkbpbaa.PAll
namespace Go.Proofs.Ytpphnjmppkbpbaa.PAll
open Go.RowKit Go.Proofs.Ytpphnjmppkbpbaa.Xw Go.Proofs.YtpphnjmppkbpbaaW.PrintWords Go.Proofs.YtpphnjmppkbpbaaW.PrintLast Go.Proofs.YtpphnjmppkbpbaaW.PrintMore
attribute [local go_sem] max2_int min2_int max_two min_two max_three min_three max_four min_four
set_option linter.unusedVariables false
set_option linter.unusedSimpArgs false
theorem eqA30 (d : Nat) (w : World) (x0 y0 : Int) (x1 y1 : Int) :
    (Op.equalIn (d + 2) 30 (.agg #[.int .i64 x0, .int .i64 x1]) (.agg #[.int .i64 y0, .int .i64 y1])).run Try.prog w = .ok (x0 == y0 && (x1 == y1)) w := by
  refine eqA_of Try.underlying30 (by kernel_rfl) ?_
  refine eqf_cons (by rfl) (by go_simp; rfl) (by go_simp; rfl) (by go_simp) ?_
  exact eqf_last (by rfl) (by go_simp; rfl) (by go_simp; rfl) (by go_simp)
end Go.Proofs.Ytpphnjmppkbpbaa.PAll
namespace Go.Proofs.Ytpphnjmppkbpbaa.PAll
open Go.RowKit Go.Proofs.Ytpphnjmppkbpbaa.Xw Go.Proofs.YtpphnjmppkbpbaaW.PrintWords Go.Proofs.YtpphnjmppkbpbaaW.PrintLast Go.Proofs.YtpphnjmppkbpbaaW.PrintMore
attribute [local go_sem] max2_int min2_int max_two min_two max_three min_three max_four min_four
set_option linter.unusedVariables false
set_option linter.unusedSimpArgs false
attribute [local go_sem high] eqA30
def crange_Right.j0 : Nat → Bool → Bool → Int → Int → Int → Option (Bool)
  | 0, _, _, _, _, _ => none
  | k + 1, x11, x119000, x119001, x119002, x119003 => if x11 = true then (some false) else (if x119000 = true then ((span_Right.f x119001 x119002).bind fun t120 => (if t120 = true then (if x119003 = (-1) then (some true) else (some (decide (x119002 ≤ x119003)))) else (some false))) else (if (x119001 == 0 && (x119002 == 0)) = true then (some (x119003 != (-1))) else (some false)))
def crange_Right.f (k : Nat) (a0_0 : Bool) (a0_1 : Int) (a0_2 : Int) (a0_3 : Int) : Option (Bool) := if a0_3 = (-1) then (crange_Right.j0 k false a0_0 a0_1 a0_2 a0_3) else ((nums_Fits.f a0_3 0 4611686018427387903).bind fun t119 => (crange_Right.j0 k (!t119) a0_0 a0_1 a0_2 a0_3))
theorem crange_Right.mono_l : ∀ k, (∀ y0 y1 y2 y3 y4, LeO (crange_Right.j0 k y0 y1 y2 y3 y4) (crange_Right.j0 (k + 1) y0 y1 y2 y3 y4))
  | 0 => fun _ _ _ _ _ r h => by simp [crange_Right.j0] at h
  | k + 1 => by
    have ih0 := crange_Right.mono_l k
    · intro y0 y1 y2 y3 y4
      unfold crange_Right.j0
      repeat' first
      | (with_reducible exact ih0 _ _ _ _ _)
      | (with_reducible exact LeO.refl _)
      | (with_reducible exact LeO.none _)
      | (with_reducible refine LeO.ite ?_ ?_)
      | (with_reducible refine LeO.bind ?_ (fun _ => ?_))
      | exact ih0 _ _ _ _ _
      | exact LeO.none _
      | refine LeO.ite ?_ ?_
      | refine LeO.bind ?_ (fun _ => ?_)
theorem crange_Right.mono : ∀ a0 a1 a2 a3 k, LeO (crange_Right.f k a0 a1 a2 a3) (crange_Right.f (k + 1) a0 a1 a2 a3) := by
  intro a0 a1 a2 a3 k
  have ih0 := crange_Right.mono_l k
  unfold crange_Right.f
  repeat' first
      | (with_reducible exact ih0 _ _ _ _ _)
      | (with_reducible exact LeO.refl _)
      | (with_reducible exact LeO.none _)
      | (with_reducible refine LeO.ite ?_ ?_)
      | (with_reducible refine LeO.bind ?_ (fun _ => ?_))
      | exact ih0 _ _ _ _ _
      | exact LeO.none _
      | refine LeO.ite ?_ ?_
      | refine LeO.bind ?_ (fun _ => ?_)
set_option maxHeartbeats 8000000 in
set_option maxRecDepth 100000 in
theorem crange_Right.calls (k : Nat) (a0_0 : Bool) (a0_1 : Int) (a0_2 : Int) (a0_3 : Int) (r : Bool) (w : World) (h : crange_Right.f k a0_0 a0_1 a0_2 a0_3 = some r) :
    Calls Try.prog 51 #[.agg #[.bool a0_0, .int .i64 a0_1, .int .i64 a0_2, .int .i64 a0_3]] w fun e w' => e = .returned (.bool r) ∧ Below w.heap.size w w' := by
  have hu59 := Try.underlying59
  have hu30 := Try.underlying30
  have HB := AsZ.mk (Below.refl w.heap.size w)
  have H : (if a0_3 = (-1) then (crange_Right.j0 k false a0_0 a0_1 a0_2 a0_3) else ((nums_Fits.f a0_3 0 4611686018427387903).bind fun t119 => (crange_Right.j0 k (!t119) a0_0 a0_1 a0_2 a0_3))) = some r := h
  clear h
  have HC2 := AsZ.mk H
  clear H
  go_enter Try.func51, Try.ntmps51
  go_upto_region 1 with (first | ((with_reducible refine gDs (N := 1) rfl ?_); refine bEv ?hg (N := 1) ?hd (cs := #[.bool a0_0, .int .i64 a0_1, .int .i64 a0_2, .int .i64 a0_3]) (t := 59) ?hr ?_; (case hd => rfl); (case hg => rfl); (case hr => first | (go_simp; done) | (go_simp; rfl)); intro gb118 hg w3 hbox hb; have n0_ := AsZ.mk (tBl (by repeat (first | (with_reducible first | exact HB.out | apply aBl | apply pBd | apply dBl) | exact HB.out)) hb); have n1_ := AsZ.mk (hbox); have n2_ := AsZ.mk ((by rw [hg]; exact (zBl (by repeat (first | (with_reducible first | exact HB.out | apply aBl | apply pBd | apply dBl) | exact HB.out))) : w.heap.size ≤ gb118)); have n3_ := AsZ.mk ((by rw [hg]; exact (zBl (by repeat (first | (with_reducible first | exact HB.out | apply aBl | apply pBd | apply dBl) | exact HB.out))) : w.heap.size ≤ gb118)); clear HB; have HB := n0_; have BK118 := n1_; have GW118 := n2_; have GE118 := n3_; clear n0_ n1_ n2_ n3_; clear hb hbox hg))
  (try simp only [Act.put, lsA, lsB, lsC])
  go_cut [11] (fun v11 wc => ∃ (kq : Nat) (x11_1 : Bool), v11 = .bool x11_1 ∧ AsZ (crange_Right.j0 kq x11_1 a0_0 a0_1 a0_2 a0_3 = some r) ∧ AsZ (kq ≤ k) ∧ AsZ (wc.heap[gb118]? = some (.cells #[.bool a0_0, .int .i64 a0_1, .int .i64 a0_2, .int .i64 a0_3] 59 (0, 0))) ∧ AsZ (Below w.heap.size w wc))
  case first =>
    have H := HC2.out
    clear HC2
    by_cases c4 : a0_3 = (-1)
    · rw [if_pos c4] at H
      have c4b0 : (a0_3 == (-1)) = true := beq_iff_eq.mpr c4
      have c4b1 : (a0_3 != (-1)) = false := bne_eq_false_iff_eq.mpr c4
      clear c4
      (first | rw [c4b0] | (simp only [i64_w, i32_w]; rw [c4b0]) | skip)
      have H' := AsZ.mk H
      clear H
      obtain ⟨hcz5_0, hcz5_1, hcz5_2, hcz5_3⟩ := celN4 BK118.out
      obtain ⟨hfz5_0, hfz5_1, hfz5_2, hfz5_3⟩ := fzN4 BK118.out
      go_wp2
      go_meet
      case rel => exact ⟨_, (false), (by first | rfl | (simp; done) | (simp [*]; done)), H', ⟨by first | omega | exact Nat.le_refl _⟩, ⟨by (with_reducible repeat first | apply bDn | apply bDr | apply bAl); exact BK118.out⟩, ⟨by repeat (first | (with_reducible first | exact HB.out | apply aBl | apply pBd | apply dBl | refine sBl ?_ GE118.out) | exact HB.out)⟩⟩
    · rw [if_neg c4] at H
      have c4b0 : (a0_3 == (-1)) = false := beq_eq_false_iff_ne.mpr c4
      have c4b1 : (a0_3 != (-1)) = true := bne_iff_ne.mpr c4
      (first | rw [c4b0] | (simp only [i64_w, i32_w]; rw [c4b0]) | skip)
      replace H := Option.bind_eq_some_iff.mp H
      obtain ⟨t119, A60, H⟩ := H
      replace H : (crange_Right.j0 k (!t119) a0_0 a0_1 a0_2 a0_3) = some r := H
      have A6 := AsZ.mk A60
      clear A60
      have H' := AsZ.mk H
      clear H
      obtain ⟨hcz7_0, hcz7_1, hcz7_2, hcz7_3⟩ := celN4 BK118.out
      obtain ⟨hfz7_0, hfz7_1, hfz7_2, hfz7_3⟩ := fzN4 BK118.out
      go_wp2_with (first | (go_at_call 56; (with_reducible refine (nums_Fits.calls a0_3 0 4611686018427387903 t119 _ A6.out).mono ?_); rintro e w' ⟨rfl, ⟨nd, rfl⟩⟩))
      go_meet
      case rel => exact ⟨_, (!t119), (by first | rfl | (simp; done) | (simp [*]; done)), H', ⟨by first | omega | exact Nat.le_refl _⟩, ⟨by (with_reducible repeat first | apply bDn | apply bDr | apply bAl); exact BK118.out⟩, ⟨by repeat (first | (with_reducible first | exact HB.out | apply aBl | apply pBd | apply dBl | refine sBl ?_ GE118.out) | exact HB.out)⟩⟩
  case rest =>
    clear HC2
    try clear p2
    try clear c4
    try clear c4b0
    try clear c4b1
    try clear c5
    try clear hcz5_0
    try clear hcz5_1
    try clear hcz5_2
    try clear hcz5_3
    try clear hcz7_0
    try clear hcz7_1
    try clear hcz7_2
    try clear hcz7_3
    try clear hfz5_0
    try clear hfz5_1
    try clear hfz5_2
    try clear hfz5_3
    try clear hfz7_0
    try clear hfz7_1
    try clear hfz7_2
    try clear hfz7_3
    obtain ⟨kq, x11_1, rfl, HA, HJ1, BK118, HB⟩ := hcut
    cases kq with
    | zero => exact absurd HA.out (by simp [crange_Right.j0])
    | succ kj1 =>
      have H := HA.out
      clear HA
      simp only [crange_Right.j0] at H
      by_cases c8 : x11_1 = true
      · subst c8
        have H1 : (some false) = some r := by rw [if_pos rfl] at H; exact H
        clear H
        have H := H1
        clear H1
        obtain rfl := Option.some.inj H
        go_wp2
        go_ret
        exact ⟨by first | rfl | exact nEm _ | exact eEm _ | (simp [eWn, eWs] <;> rfl) | (simp [*, eWn, eWs] <;> rfl), by repeat (first | (with_reducible first | exact HB.out | apply aBl | apply pBd | apply dBl | refine sBl ?_ GE118.out) | exact HB.out)⟩
      · replace c8 := Bool.eq_false_iff.mpr c8
        subst c8
        have H1 : (if a0_0 = true then ((span_Right.f a0_1 a0_2).bind fun t120 => (if t120 = true then (if a0_3 = (-1) then (some true) else (some (decide (a0_2 ≤ a0_3)))) else (some false))) else (if (a0_1 == 0 && (a0_2 == 0)) = true then (some (a0_3 != (-1))) else (some false))) = some r := by rw [if_neg (show ¬ (false = true) by decide)] at H; exact H
        clear H
        have H := H1
        clear H1
        by_cases c9 : a0_0 = true
        · subst c9
          have H1 : ((span_Right.f a0_1 a0_2).bind fun t120 => (if t120 = true then (if a0_3 = (-1) then (some true) else (some (decide (a0_2 ≤ a0_3)))) else (some false))) = some r := by rw [if_pos rfl] at H; exact H
          clear H
          have H := H1
          clear H1
          replace H := Option.bind_eq_some_iff.mp H
          obtain ⟨t120, A100, H⟩ := H
          replace H : (if t120 = true then (if a0_3 = (-1) then (some true) else (some (decide (a0_2 ≤ a0_3)))) else (some false)) = some r := H
          have A10 := AsZ.mk A100
          clear A100
          by_cases c11 : t120 = true
          · subst c11
            have H1 : (if a0_3 = (-1) then (some true) else (some (decide (a0_2 ≤ a0_3)))) = some r := by rw [if_pos rfl] at H; exact H
            clear H
            have H := H1
            clear H1
            by_cases c12 : a0_3 = (-1)
            · rw [if_pos c12] at H
              have c12b0 : (a0_3 == (-1)) = true := beq_iff_eq.mpr c12
              have c12b1 : (a0_3 != (-1)) = false := bne_eq_false_iff_eq.mpr c12
              clear c12
              obtain rfl := Option.some.inj H
              obtain ⟨hcz13_0, hcz13_1, hcz13_2, hcz13_3⟩ := celN4 BK118.out
              obtain ⟨hfz13_0, hfz13_1, hfz13_2, hfz13_3⟩ := fzN4 BK118.out
              go_wp2_with (first | ((with_reducible refine gCa (f := 42) rfl ?_); refine gLl (some 26) rfl rfl Try.func42 (by kernel_rfl) rfl #[.agg #[.int .i64 a0_1, .int .i64 a0_2]] rfl (by (try simp only [lsD, lsE, lsF]); first | done | rfl | (simp only [lsG, lsH]; rfl)) ?_; (with_reducible refine (span_Right.calls a0_1 a0_2 true _ A10.out).mono ?_); rintro e w14 ⟨rfl, hb⟩; refine ⟨_, rfl, ?_⟩; have n0_ := AsZ.mk (bBl (g := gb118) (o := .cells #[.bool true, .int .i64 a0_1, .int .i64 a0_2, .int .i64 a0_3] 59 (0, 0)) (by (with_reducible repeat first | apply bDn | apply bDr | apply bAl); exact BK118.out) hb); have n1_ := AsZ.mk (tBl (by repeat (first | (with_reducible first | exact HB.out | apply aBl | apply pBd | apply dBl | refine sBl ?_ GE118.out) | exact HB.out)) hb); clear BK118; clear HB; have BK118 := n0_; have HB := n1_; clear n0_ n1_; (try clear hb); (try clear hb2); (try clear hk); (try clear hi); obtain ⟨hcz15_0, hcz15_1, hcz15_2, hcz15_3⟩ := celN4 BK118.out; obtain ⟨hfz15_0, hfz15_1, hfz15_2, hfz15_3⟩ := fzN4 BK118.out))
              go_ret
              exact ⟨by first | rfl | exact nEm _ | exact eEm _ | (simp [eWn, eWs] <;> rfl) | (simp [*, eWn, eWs] <;> rfl), by repeat (first | (with_reducible first | exact HB.out | apply aBl | apply pBd | apply dBl | refine sBl ?_ GE118.out) | exact HB.out)⟩
            · rw [if_neg c12] at H
              have c12b0 : (a0_3 == (-1)) = false := beq_eq_false_iff_ne.mpr c12
              have c12b1 : (a0_3 != (-1)) = true := bne_iff_ne.mpr c12
              obtain rfl := Option.some.inj H
              obtain ⟨hcz16_0, hcz16_1, hcz16_2, hcz16_3⟩ := celN4 BK118.out
              obtain ⟨hfz16_0, hfz16_1, hfz16_2, hfz16_3⟩ := fzN4 BK118.out
              go_wp2_with (first | ((with_reducible refine gCa (f := 42) rfl ?_); refine gLl (some 26) rfl rfl Try.func42 (by kernel_rfl) rfl #[.agg #[.int .i64 a0_1, .int .i64 a0_2]] rfl (by (try simp only [lsD, lsE, lsF]); first | done | rfl | (simp only [lsG, lsH]; rfl)) ?_; (with_reducible refine (span_Right.calls a0_1 a0_2 true _ A10.out).mono ?_); rintro e w17 ⟨rfl, hb⟩; refine ⟨_, rfl, ?_⟩; have n0_ := AsZ.mk (bBl (g := gb118) (o := .cells #[.bool true, .int .i64 a0_1, .int .i64 a0_2, .int .i64 a0_3] 59 (0, 0)) (by (with_reducible repeat first | apply bDn | apply bDr | apply bAl); exact BK118.out) hb); have n1_ := AsZ.mk (tBl (by repeat (first | (with_reducible first | exact HB.out | apply aBl | apply pBd | apply dBl | refine sBl ?_ GE118.out) | exact HB.out)) hb); clear BK118; clear HB; have BK118 := n0_; have HB := n1_; clear n0_ n1_; (try clear hb); (try clear hb2); (try clear hk); (try clear hi); obtain ⟨hcz18_0, hcz18_1, hcz18_2, hcz18_3⟩ := celN4 BK118.out; obtain ⟨hfz18_0, hfz18_1, hfz18_2, hfz18_3⟩ := fzN4 BK118.out))
              go_ret
              exact ⟨by first | rfl | exact nEm _ | exact eEm _ | (simp [eWn, eWs] <;> rfl) | (simp [*, eWn, eWs] <;> rfl), by repeat (first | (with_reducible first | exact HB.out | apply aBl | apply pBd | apply dBl | refine sBl ?_ GE118.out) | exact HB.out)⟩
          · replace c11 := Bool.eq_false_iff.mpr c11
            subst c11
            have H1 : (some false) = some r := by rw [if_neg (show ¬ (false = true) by decide)] at H; exact H
            clear H
            have H := H1
            clear H1
            obtain rfl := Option.some.inj H
            obtain ⟨hcz19_0, hcz19_1, hcz19_2, hcz19_3⟩ := celN4 BK118.out
            obtain ⟨hfz19_0, hfz19_1, hfz19_2, hfz19_3⟩ := fzN4 BK118.out
            go_wp2_with (first | ((with_reducible refine gCa (f := 42) rfl ?_); refine gLl (some 26) rfl rfl Try.func42 (by kernel_rfl) rfl #[.agg #[.int .i64 a0_1, .int .i64 a0_2]] rfl (by (try simp only [lsD, lsE, lsF]); first | done | rfl | (simp only [lsG, lsH]; rfl)) ?_; (with_reducible refine (span_Right.calls a0_1 a0_2 false _ A10.out).mono ?_); rintro e w20 ⟨rfl, hb⟩; refine ⟨_, rfl, ?_⟩; have n0_ := AsZ.mk (bBl (g := gb118) (o := .cells #[.bool true, .int .i64 a0_1, .int .i64 a0_2, .int .i64 a0_3] 59 (0, 0)) (by (with_reducible repeat first | apply bDn | apply bDr | apply bAl); exact BK118.out) hb); have n1_ := AsZ.mk (tBl (by repeat (first | (with_reducible first | exact HB.out | apply aBl | apply pBd | apply dBl | refine sBl ?_ GE118.out) | exact HB.out)) hb); clear BK118; clear HB; have BK118 := n0_; have HB := n1_; clear n0_ n1_; (try clear hb); (try clear hb2); (try clear hk); (try clear hi)))
            go_ret
            exact ⟨by first | rfl | exact nEm _ | exact eEm _ | (simp [eWn, eWs] <;> rfl) | (simp [*, eWn, eWs] <;> rfl), by repeat (first | (with_reducible first | exact HB.out | apply aBl | apply pBd | apply dBl | refine sBl ?_ GE118.out) | exact HB.out)⟩
        · replace c9 := Bool.eq_false_iff.mpr c9
          subst c9
          have H1 : (if (a0_1 == 0 && (a0_2 == 0)) = true then (some (a0_3 != (-1))) else (some false)) = some r := by rw [if_neg (show ¬ (false = true) by decide)] at H; exact H
          clear H
          have H := H1
          clear H1
          by_cases c21 : (a0_1 == 0 && (a0_2 == 0)) = true
          · rw [if_pos c21] at H
            have c21b0 : (a0_1 == 0 && (a0_2 == 0)) = true := c21
            (try (have c21b1 : decide (a0_1 = 0 && (a0_2 == 0)) = true := by simpa using c21))
            (try (have c21b2 : (a0_1 == 0 && (a0_2 == 0)) = true := by simpa using c21))
            clear c21
            obtain rfl := Option.some.inj H
            obtain ⟨hcz22_0, hcz22_1, hcz22_2, hcz22_3⟩ := celN4 BK118.out
            obtain ⟨hfz22_0, hfz22_1, hfz22_2, hfz22_3⟩ := fzN4 BK118.out
            go_wp2
            go_ret
            exact ⟨by first | rfl | exact nEm _ | exact eEm _ | (simp [eWn, eWs] <;> rfl) | (simp [*, eWn, eWs] <;> rfl), by repeat (first | (with_reducible first | exact HB.out | apply aBl | apply pBd | apply dBl | refine sBl ?_ GE118.out) | exact HB.out)⟩
          · rw [if_neg c21] at H
            have c21b0 : (a0_1 == 0 && (a0_2 == 0)) = false := by simpa using c21
            (try (have c21b1 : decide (a0_1 = 0 && (a0_2 == 0)) = false := by simpa using c21))
            (try (have c21b2 : (a0_1 == 0 && (a0_2 == 0)) = false := by simpa using c21))
            (try (have c21b3 : ¬ (a0_1 = 0 && (a0_2 == 0)) := by simpa using c21))
            clear c21
            obtain rfl := Option.some.inj H
            obtain ⟨hcz23_0, hcz23_1, hcz23_2, hcz23_3⟩ := celN4 BK118.out
            obtain ⟨hfz23_0, hfz23_1, hfz23_2, hfz23_3⟩ := fzN4 BK118.out
            go_wp2
            go_ret
            exact ⟨by first | rfl | exact nEm _ | exact eEm _ | (simp [eWn, eWs] <;> rfl) | (simp [*, eWn, eWs] <;> rfl), by repeat (first | (with_reducible first | exact HB.out | apply aBl | apply pBd | apply dBl | refine sBl ?_ GE118.out) | exact HB.out)⟩
end Go.Proofs.Ytpphnjmppkbpbaa.PAll
namespace Go.Proofs.Ytpphnjmppkbpbaa.PAll
open Go.RowKit Go.Proofs.Ytpphnjmppkbpbaa.Xw Go.Proofs.YtpphnjmppkbpbaaW.PrintWords Go.Proofs.YtpphnjmppkbpbaaW.PrintLast Go.Proofs.YtpphnjmppkbpbaaW.PrintMore
attribute [local go_sem] max2_int min2_int max_two min_two max_three min_three max_four min_four
set_option linter.unusedVariables false
set_option linter.unusedSimpArgs false
def crange_Print.f (k : Nat) (a0_0 : Bool) (a0_1 : Int) (a0_2 : Int) (a0_3 : Int) : Option (ByteArray) := (crange_Right.f k a0_0 a0_1 a0_2 a0_3).bind fun t122 => (if t122 = true then (if a0_0 = true then ((nums_Print.f k a0_1).bind fun t123 => (if t123.size + 1 ≤ 9223372036854775807 then ((nums_Print.f k (wrap64 (a0_2 - 1))).bind fun t124 => (if t123.size + 1 + t124.size ≤ 9223372036854775807 then (if 6 + (t123.size + 1 + t124.size) ≤ 9223372036854775807 then (if a0_3 = (-1) then (if 6 + (t123.size + 1 + t124.size) + 2 ≤ 9223372036854775807 then (some (((⟨#[98, 121, 116, 101, 115, 32]⟩ : ByteArray) ++ ((t123 ++ (⟨#[45]⟩ : ByteArray)) ++ t124)) ++ (⟨#[47, 42]⟩ : ByteArray))) else (none)) else (if 6 + (t123.size + 1 + t124.size) + 1 ≤ 9223372036854775807 then ((nums_Print.f k a0_3).bind fun t125 => (if 6 + (t123.size + 1 + t124.size) + 1 + t125.size ≤ 9223372036854775807 then (some ((((⟨#[98, 121, 116, 101, 115, 32]⟩ : ByteArray) ++ ((t123 ++ (⟨#[45]⟩ : ByteArray)) ++ t124)) ++ (⟨#[47]⟩ : ByteArray)) ++ t125)) else (none))) else (none))) else (none)) else (none))) else (none))) else (if 6 + 1 ≤ 9223372036854775807 then (if a0_3 = (-1) then (if 7 + 2 ≤ 9223372036854775807 then (some (((⟨#[98, 121, 116, 101, 115, 32]⟩ : ByteArray) ++ (⟨#[42]⟩ : ByteArray)) ++ (⟨#[47, 42]⟩ : ByteArray))) else (none)) else (if 7 + 1 ≤ 9223372036854775807 then ((nums_Print.f k a0_3).bind fun t126 => (if 8 + t126.size ≤ 9223372036854775807 then (some ((((⟨#[98, 121, 116, 101, 115, 32]⟩ : ByteArray) ++ (⟨#[42]⟩ : ByteArray)) ++ (⟨#[47]⟩ : ByteArray)) ++ t126)) else (none))) else (none))) else (none))) else (some (⟨#[]⟩ : ByteArray)))
theorem crange_Print.mono : ∀ a0 a1 a2 a3 k, LeO (crange_Print.f k a0 a1 a2 a3) (crange_Print.f (k + 1) a0 a1 a2 a3) := by
  intro a0 a1 a2 a3 k
  unfold crange_Print.f
  repeat' first
      | (with_reducible exact crange_Right.mono _ _ _ _ _)
      | (with_reducible exact nums_Print.mono _ _)
      | (with_reducible exact LeO.refl _)
      | (with_reducible exact LeO.none _)
      | (with_reducible refine LeO.ite ?_ ?_)
      | (with_reducible refine LeO.bind ?_ (fun _ => ?_))
      | exact crange_Right.mono _ _ _ _ _
      | exact nums_Print.mono _ _
      | exact LeO.none _
      | refine LeO.ite ?_ ?_
      | refine LeO.bind ?_ (fun _ => ?_)
def crange_Print.T5 : Bool × List (List Nat × List Nat) := (true, [([], []), ([], []), ([1], [1]), ([2], [2]), ([3], [3]), ([4], [4]), ([], []), ([6], [6]), ([7], [7]), ([8], [8]), ([9, 4], [9]), ([5, 10], [5, 10]), ([0, 11], [0, 11]), ([12, 10, 0, 1, 2, 3, 4, 5, 6, 7, 8, 9, 10, 11, 12], [0, 12])])
def crange_Print.B5 : List Nat := [0, 0, 2, 6, 14, 30, 0, 64, 192, 448, 990, 2046, 4095, 8191]
theorem crange_Print.tab5 : rtab .any (opsOf Try.f43 5) = crange_Print.T5 := by kernel_rfl
theorem crange_Print.bits5 : waitsOk crange_Print.T5.2 crange_Print.B5 = true := by kernel_rfl
set_option maxHeartbeats 8000000 in
set_option maxRecDepth 100000 in
theorem crange_Print.calls (k : Nat) (a0_0 : Bool) (a0_1 : Int) (a0_2 : Int) (a0_3 : Int) (r : ByteArray) (w : World) (h : crange_Print.f k a0_0 a0_1 a0_2 a0_3 = some r) :
    Calls Try.prog 43 #[.agg #[.bool a0_0, .int .i64 a0_1, .int .i64 a0_2, .int .i64 a0_3]] w fun e w' => e = .returned (.string r) ∧ Below w.heap.size w w' := by
  have hu59 := Try.underlying59
  have HB := AsZ.mk (Below.refl w.heap.size w)
  have H : ((crange_Right.f k a0_0 a0_1 a0_2 a0_3).bind fun t122 => (if t122 = true then (if a0_0 = true then ((nums_Print.f k a0_1).bind fun t123 => (if t123.size + 1 ≤ 9223372036854775807 then ((nums_Print.f k (wrap64 (a0_2 - 1))).bind fun t124 => (if t123.size + 1 + t124.size ≤ 9223372036854775807 then (if 6 + (t123.size + 1 + t124.size) ≤ 9223372036854775807 then (if a0_3 = (-1) then (if 6 + (t123.size + 1 + t124.size) + 2 ≤ 9223372036854775807 then (some (((⟨#[98, 121, 116, 101, 115, 32]⟩ : ByteArray) ++ ((t123 ++ (⟨#[45]⟩ : ByteArray)) ++ t124)) ++ (⟨#[47, 42]⟩ : ByteArray))) else (none)) else (if 6 + (t123.size + 1 + t124.size) + 1 ≤ 9223372036854775807 then ((nums_Print.f k a0_3).bind fun t125 => (if 6 + (t123.size + 1 + t124.size) + 1 + t125.size ≤ 9223372036854775807 then (some ((((⟨#[98, 121, 116, 101, 115, 32]⟩ : ByteArray) ++ ((t123 ++ (⟨#[45]⟩ : ByteArray)) ++ t124)) ++ (⟨#[47]⟩ : ByteArray)) ++ t125)) else (none))) else (none))) else (none)) else (none))) else (none))) else (if 6 + 1 ≤ 9223372036854775807 then (if a0_3 = (-1) then (if 7 + 2 ≤ 9223372036854775807 then (some (((⟨#[98, 121, 116, 101, 115, 32]⟩ : ByteArray) ++ (⟨#[42]⟩ : ByteArray)) ++ (⟨#[47, 42]⟩ : ByteArray))) else (none)) else (if 7 + 1 ≤ 9223372036854775807 then ((nums_Print.f k a0_3).bind fun t126 => (if 8 + t126.size ≤ 9223372036854775807 then (some ((((⟨#[98, 121, 116, 101, 115, 32]⟩ : ByteArray) ++ (⟨#[42]⟩ : ByteArray)) ++ (⟨#[47]⟩ : ByteArray)) ++ t126)) else (none))) else (none))) else (none))) else (some (⟨#[]⟩ : ByteArray)))) = some r := h
  clear h
  replace H := Option.bind_eq_some_iff.mp H
  obtain ⟨t122, A20, H⟩ := H
  replace H : (if t122 = true then (if a0_0 = true then ((nums_Print.f k a0_1).bind fun t123 => (if t123.size + 1 ≤ 9223372036854775807 then ((nums_Print.f k (wrap64 (a0_2 - 1))).bind fun t124 => (if t123.size + 1 + t124.size ≤ 9223372036854775807 then (if 6 + (t123.size + 1 + t124.size) ≤ 9223372036854775807 then (if a0_3 = (-1) then (if 6 + (t123.size + 1 + t124.size) + 2 ≤ 9223372036854775807 then (some (((⟨#[98, 121, 116, 101, 115, 32]⟩ : ByteArray) ++ ((t123 ++ (⟨#[45]⟩ : ByteArray)) ++ t124)) ++ (⟨#[47, 42]⟩ : ByteArray))) else (none)) else (if 6 + (t123.size + 1 + t124.size) + 1 ≤ 9223372036854775807 then ((nums_Print.f k a0_3).bind fun t125 => (if 6 + (t123.size + 1 + t124.size) + 1 + t125.size ≤ 9223372036854775807 then (some ((((⟨#[98, 121, 116, 101, 115, 32]⟩ : ByteArray) ++ ((t123 ++ (⟨#[45]⟩ : ByteArray)) ++ t124)) ++ (⟨#[47]⟩ : ByteArray)) ++ t125)) else (none))) else (none))) else (none)) else (none))) else (none))) else (if 6 + 1 ≤ 9223372036854775807 then (if a0_3 = (-1) then (if 7 + 2 ≤ 9223372036854775807 then (some (((⟨#[98, 121, 116, 101, 115, 32]⟩ : ByteArray) ++ (⟨#[42]⟩ : ByteArray)) ++ (⟨#[47, 42]⟩ : ByteArray))) else (none)) else (if 7 + 1 ≤ 9223372036854775807 then ((nums_Print.f k a0_3).bind fun t126 => (if 8 + t126.size ≤ 9223372036854775807 then (some ((((⟨#[98, 121, 116, 101, 115, 32]⟩ : ByteArray) ++ (⟨#[42]⟩ : ByteArray)) ++ (⟨#[47]⟩ : ByteArray)) ++ t126)) else (none))) else (none))) else (none))) else (some (⟨#[]⟩ : ByteArray))) = some r := H
  have A2 := AsZ.mk A20
  clear A20
  by_cases c3 : t122 = true
  · subst c3
    have H1 : (if a0_0 = true then ((nums_Print.f k a0_1).bind fun t123 => (if t123.size + 1 ≤ 9223372036854775807 then ((nums_Print.f k (wrap64 (a0_2 - 1))).bind fun t124 => (if t123.size + 1 + t124.size ≤ 9223372036854775807 then (if 6 + (t123.size + 1 + t124.size) ≤ 9223372036854775807 then (if a0_3 = (-1) then (if 6 + (t123.size + 1 + t124.size) + 2 ≤ 9223372036854775807 then (some (((⟨#[98, 121, 116, 101, 115, 32]⟩ : ByteArray) ++ ((t123 ++ (⟨#[45]⟩ : ByteArray)) ++ t124)) ++ (⟨#[47, 42]⟩ : ByteArray))) else (none)) else (if 6 + (t123.size + 1 + t124.size) + 1 ≤ 9223372036854775807 then ((nums_Print.f k a0_3).bind fun t125 => (if 6 + (t123.size + 1 + t124.size) + 1 + t125.size ≤ 9223372036854775807 then (some ((((⟨#[98, 121, 116, 101, 115, 32]⟩ : ByteArray) ++ ((t123 ++ (⟨#[45]⟩ : ByteArray)) ++ t124)) ++ (⟨#[47]⟩ : ByteArray)) ++ t125)) else (none))) else (none))) else (none)) else (none))) else (none))) else (if 6 + 1 ≤ 9223372036854775807 then (if a0_3 = (-1) then (if 7 + 2 ≤ 9223372036854775807 then (some (((⟨#[98, 121, 116, 101, 115, 32]⟩ : ByteArray) ++ (⟨#[42]⟩ : ByteArray)) ++ (⟨#[47, 42]⟩ : ByteArray))) else (none)) else (if 7 + 1 ≤ 9223372036854775807 then ((nums_Print.f k a0_3).bind fun t126 => (if 8 + t126.size ≤ 9223372036854775807 then (some ((((⟨#[98, 121, 116, 101, 115, 32]⟩ : ByteArray) ++ (⟨#[42]⟩ : ByteArray)) ++ (⟨#[47]⟩ : ByteArray)) ++ t126)) else (none))) else (none))) else (none))) = some r := by rw [if_pos rfl] at H; exact H
    clear H
    have H := H1
    clear H1
    by_cases c4 : a0_0 = true
    · subst c4
      have H1 : ((nums_Print.f k a0_1).bind fun t123 => (if t123.size + 1 ≤ 9223372036854775807 then ((nums_Print.f k (wrap64 (a0_2 - 1))).bind fun t124 => (if t123.size + 1 + t124.size ≤ 9223372036854775807 then (if 6 + (t123.size + 1 + t124.size) ≤ 9223372036854775807 then (if a0_3 = (-1) then (if 6 + (t123.size + 1 + t124.size) + 2 ≤ 9223372036854775807 then (some (((⟨#[98, 121, 116, 101, 115, 32]⟩ : ByteArray) ++ ((t123 ++ (⟨#[45]⟩ : ByteArray)) ++ t124)) ++ (⟨#[47, 42]⟩ : ByteArray))) else (none)) else (if 6 + (t123.size + 1 + t124.size) + 1 ≤ 9223372036854775807 then ((nums_Print.f k a0_3).bind fun t125 => (if 6 + (t123.size + 1 + t124.size) + 1 + t125.size ≤ 9223372036854775807 then (some ((((⟨#[98, 121, 116, 101, 115, 32]⟩ : ByteArray) ++ ((t123 ++ (⟨#[45]⟩ : ByteArray)) ++ t124)) ++ (⟨#[47]⟩ : ByteArray)) ++ t125)) else (none))) else (none))) else (none)) else (none))) else (none))) = some r := by rw [if_pos rfl] at H; exact H
      clear H
      have H := H1
      clear H1
      replace H := Option.bind_eq_some_iff.mp H
      obtain ⟨t123, A50, H⟩ := H
      replace H : (if t123.size + 1 ≤ 9223372036854775807 then ((nums_Print.f k (wrap64 (a0_2 - 1))).bind fun t124 => (if t123.size + 1 + t124.size ≤ 9223372036854775807 then (if 6 + (t123.size + 1 + t124.size) ≤ 9223372036854775807 then (if a0_3 = (-1) then (if 6 + (t123.size + 1 + t124.size) + 2 ≤ 9223372036854775807 then (some (((⟨#[98, 121, 116, 101, 115, 32]⟩ : ByteArray) ++ ((t123 ++ (⟨#[45]⟩ : ByteArray)) ++ t124)) ++ (⟨#[47, 42]⟩ : ByteArray))) else (none)) else (if 6 + (t123.size + 1 + t124.size) + 1 ≤ 9223372036854775807 then ((nums_Print.f k a0_3).bind fun t125 => (if 6 + (t123.size + 1 + t124.size) + 1 + t125.size ≤ 9223372036854775807 then (some ((((⟨#[98, 121, 116, 101, 115, 32]⟩ : ByteArray) ++ ((t123 ++ (⟨#[45]⟩ : ByteArray)) ++ t124)) ++ (⟨#[47]⟩ : ByteArray)) ++ t125)) else (none))) else (none))) else (none)) else (none))) else (none)) = some r := H
      have A5 := AsZ.mk A50
      clear A50
      by_cases c6 : t123.size + 1 ≤ 9223372036854775807
      · rw [if_pos c6] at H
        have c6b0 := eq_true c6
        have c6b1 : decide (t123.size + 1 ≤ 9223372036854775807) = true := decide_eq_true c6
        try have c6b2 : (9223372036854775807 < t123.size + 1) = False := eq_false (Nat.not_lt.2 c6)
        replace H := Option.bind_eq_some_iff.mp H
        obtain ⟨t124, A70, H⟩ := H
        replace H : (if t123.size + 1 + t124.size ≤ 9223372036854775807 then (if 6 + (t123.size + 1 + t124.size) ≤ 9223372036854775807 then (if a0_3 = (-1) then (if 6 + (t123.size + 1 + t124.size) + 2 ≤ 9223372036854775807 then (some (((⟨#[98, 121, 116, 101, 115, 32]⟩ : ByteArray) ++ ((t123 ++ (⟨#[45]⟩ : ByteArray)) ++ t124)) ++ (⟨#[47, 42]⟩ : ByteArray))) else (none)) else (if 6 + (t123.size + 1 + t124.size) + 1 ≤ 9223372036854775807 then ((nums_Print.f k a0_3).bind fun t125 => (if 6 + (t123.size + 1 + t124.size) + 1 + t125.size ≤ 9223372036854775807 then (some ((((⟨#[98, 121, 116, 101, 115, 32]⟩ : ByteArray) ++ ((t123 ++ (⟨#[45]⟩ : ByteArray)) ++ t124)) ++ (⟨#[47]⟩ : ByteArray)) ++ t125)) else (none))) else (none))) else (none)) else (none)) = some r := H
        have A7 := AsZ.mk A70
        clear A70
        by_cases c8 : t123.size + 1 + t124.size ≤ 9223372036854775807
        · rw [if_pos c8] at H
          have c8b0 := eq_true c8
          have c8b1 : decide (t123.size + 1 + t124.size ≤ 9223372036854775807) = true := decide_eq_true c8
          try have c8b2 : (9223372036854775807 < t123.size + 1 + t124.size) = False := eq_false (Nat.not_lt.2 c8)
          by_cases c9 : 6 + (t123.size + 1 + t124.size) ≤ 9223372036854775807
          · rw [if_pos c9] at H
            have c9b0 := eq_true c9
            have c9b1 : decide (6 + (t123.size + 1 + t124.size) ≤ 9223372036854775807) = true := decide_eq_true c9
            try have c9b2 : (9223372036854775807 < 6 + (t123.size + 1 + t124.size)) = False := eq_false (Nat.not_lt.2 c9)
            by_cases c10 : a0_3 = (-1)
            · rw [if_pos c10] at H
              have c10b0 : (a0_3 == (-1)) = true := beq_iff_eq.mpr c10
              have c10b1 : (a0_3 != (-1)) = false := bne_eq_false_iff_eq.mpr c10
              clear c10
              by_cases c11 : 6 + (t123.size + 1 + t124.size) + 2 ≤ 9223372036854775807
              · rw [if_pos c11] at H
                have c11b0 := eq_true c11
                have c11b1 : decide (6 + (t123.size + 1 + t124.size) + 2 ≤ 9223372036854775807) = true := decide_eq_true c11
                try have c11b2 : (9223372036854775807 < 6 + (t123.size + 1 + t124.size) + 2) = False := eq_false (Nat.not_lt.2 c11)
                obtain rfl := Option.some.inj H
                go_enter Try.func43, Try.ntmps43
                try go_wp2_with (first | ((with_reducible refine gDs (N := 1) rfl ?_); refine bEv ?hg (N := 1) ?hd (cs := #[.bool true, .int .i64 a0_1, .int .i64 a0_2, .int .i64 a0_3]) (t := 59) ?hr ?_; (case hd => rfl); (case hg => rfl); (case hr => first | (go_simp; done) | (go_simp; rfl)); intro gb121 hg w12 hbox hb; have n0_ := AsZ.mk (tBl (by repeat (first | (with_reducible first | exact HB.out | apply aBl | apply pBd | apply dBl) | exact HB.out)) hb); have n1_ := AsZ.mk (hbox); have n2_ := AsZ.mk ((by rw [hg]; exact (zBl (by repeat (first | (with_reducible first | exact HB.out | apply aBl | apply pBd | apply dBl) | exact HB.out))) : w.heap.size ≤ gb121)); have n3_ := AsZ.mk ((by rw [hg]; exact (zBl (by repeat (first | (with_reducible first | exact HB.out | apply aBl | apply pBd | apply dBl) | exact HB.out))) : w.heap.size ≤ gb121)); clear HB; have HB := n0_; have BK121 := n1_; have GW121 := n2_; have GE121 := n3_; clear n0_ n1_ n2_ n3_; clear hb hbox hg; obtain ⟨hcz13_0, hcz13_1, hcz13_2, hcz13_3⟩ := celN4 BK121.out; obtain ⟨hfz13_0, hfz13_1, hfz13_2, hfz13_3⟩ := fzN4 BK121.out) | ((with_reducible refine gCa (f := 51) rfl ?_); refine gLl (some 5) rfl rfl Try.func51 (by kernel_rfl) rfl #[.agg #[.bool true, .int .i64 a0_1, .int .i64 a0_2, .int .i64 a0_3]] rfl (by (try simp only [lsD, lsE, lsF]); first | done | rfl | (simp only [lsG, lsH]; rfl)) ?_; (with_reducible refine (crange_Right.calls k true a0_1 a0_2 a0_3 true _ A2.out).mono ?_); rintro e w14 ⟨rfl, hb⟩; refine ⟨_, rfl, ?_⟩; have n0_ := AsZ.mk (bBl (g := gb121) (o := .cells #[.bool true, .int .i64 a0_1, .int .i64 a0_2, .int .i64 a0_3] 59 (0, 0)) (by (with_reducible repeat first | apply bDn | apply bDr | apply bAl); exact BK121.out) hb); have n1_ := AsZ.mk (tBl (by repeat (first | (with_reducible first | exact HB.out | apply aBl | apply pBd | apply dBl | refine sBl ?_ GE121.out) | exact HB.out)) hb); clear BK121; clear HB; have BK121 := n0_; have HB := n1_; clear n0_ n1_; (try clear hb); (try clear hb2); (try clear hk); (try clear hi); obtain ⟨hcz15_0, hcz15_1, hcz15_2, hcz15_3⟩ := celN4 BK121.out; obtain ⟨hfz15_0, hfz15_1, hfz15_2, hfz15_3⟩ := fzN4 BK121.out))
                have n0_ := AsZ.mk (bDr BK121.out)
                have n1_ := AsZ.mk (dBl HB.out)
                clear BK121
                clear HB
                have BK121 := n0_
                have HB := n1_
                clear n0_ n1_
                refine start_ (n := 14) (S := fun w' => w'.cell? ⟨gb121, 0, none⟩ = some (.bool true) ∧ w'.cell? ⟨gb121, 1, none⟩ = some (.int .i64 a0_1) ∧ w'.cell? ⟨gb121, 2, none⟩ = some (.int .i64 a0_2) ∧ w'.cell? ⟨gb121, 3, none⟩ = some (.int .i64 a0_3)) (ds := []) #[false, false, false, false, false, false, false, false, false, false, false, false, false, false] (by kernel_rfl) rfl rfl ⟨(bCe BK121.out 0).trans rfl, (bCe BK121.out 1).trans rfl, (bCe BK121.out 2).trans rfl, (bCe BK121.out 3).trans rfl⟩ (fun hHeld => ?_); refine with_tabW crange_Print.tab5 crange_Print.bits5 (fun HT_ HW_ => ?_)
                generalize w14.drew = w16 at BK121 HB hHeld ⊢
                refine pure_ (i := 0) (N := some 9) (v := ?_) (a' := ?_) #[true, false, false, false, false, false, false, false, false, false, false, false, false, false] rfl rfl (any_of HT_.out (by kernel_rfl)) (fun _ _ _ h => h) (Or.inl ⟨by rfl, ?_⟩) ?_ ?_
                rotate_left
                · intro w'
                  go_simp
                  with_reducible rfl
                rotate_left
                · simp only [Act.put, lsA, lsB, lsC, i64_w, i32_w]
                  rfl
                refine pure_ (i := 1) (N := some 10) (v := ?_) (a' := ?_) #[true, true, false, false, false, false, false, false, false, false, false, false, false, false] rfl rfl (any_of HT_.out (by kernel_rfl)) (fun _ _ _ h => h) (Or.inl ⟨by rfl, ?_⟩) ?_ ?_
                rotate_left
                · intro w'
                  go_simp
                  with_reducible rfl
                rotate_left
                · simp only [Act.put, lsA, lsB, lsC, i64_w, i32_w]
                  rfl
                refine pure_ (i := 2) (N := some 11) (v := ?_) (a' := ?_) #[true, true, true, false, false, false, false, false, false, false, false, false, false, false] rfl rfl (any_of HT_.out (by kernel_rfl)) (fun _ _ _ h => h) (Or.inl ⟨by rfl, ?_⟩) ?_ ?_
                rotate_left
                · intro w'
                  go_simp
                  with_reducible rfl
                rotate_left
                · simp only [Act.put, lsA, lsB, lsC, i64_w, i32_w]
                  rfl
                refine pure_ (i := 6) (N := some 15) (v := ?_) (a' := ?_) #[true, true, true, false, false, false, true, false, false, false, false, false, false, false] rfl rfl (any_of HT_.out (by kernel_rfl)) (fun _ _ _ h => h) (Or.inl ⟨by rfl, ?_⟩) ?_ ?_
                rotate_left
                · intro w'
                  go_simp
                  with_reducible rfl
                rotate_left
                · simp only [Act.put, lsA, lsB, lsC, i64_w, i32_w]
                  rfl
                refine pure_ (i := 7) (N := some 16) (v := ?_) (a' := ?_) #[true, true, true, false, false, false, true, true, false, false, false, false, false, false] rfl rfl (any_of HT_.out (by kernel_rfl)) (fun _ _ _ h => h) (Or.inl ⟨by rfl, ?_⟩) ?_ ?_
                rotate_left
                · intro w'
                  go_simp
                  with_reducible rfl
                rotate_left
                · simp only [Act.put, lsA, lsB, lsC, i64_w, i32_w]
                  rfl
                refine take_ (i := 3) (N := some 12) (v := ?_) (a' := ?_) #[true, true, true, true, false, false, true, true, false, false, false, false, false, false] rfl rfl (take_ofW HT_.out HW_.out (by kernel_rfl)) (fun _ _ _ h => h) (Or.inl ⟨by rfl, ?_⟩) hHeld ?_ ?_
                rotate_left
                · rintro w' ⟨s0, s1, s2, s3⟩
                  go_simp
                  with_reducible rfl
                rotate_left
                · simp only [Act.put, lsA, lsB, lsC, i64_w, i32_w]
                  rfl
                refine take_ (i := 8) (N := some 17) (v := ?_) (a' := ?_) #[true, true, true, true, false, false, true, true, true, false, false, false, false, false] rfl rfl (take_ofW HT_.out HW_.out (by kernel_rfl)) (fun _ _ _ h => h) (Or.inl ⟨by rfl, ?_⟩) hHeld ?_ ?_
                rotate_left
                · rintro w' ⟨s0, s1, s2, s3⟩
                  go_simp
                  with_reducible rfl
                rotate_left
                · simp only [Act.put, lsA, lsB, lsC, i64_w, i32_w]
                  rfl
                refine pure_ (i := 9) (N := some 18) (v := ?_) (a' := ?_) #[true, true, true, true, false, false, true, true, true, true, false, false, false, false] rfl rfl (any_of HT_.out (by kernel_rfl)) (fun _ _ _ h => h) (Or.inl ⟨by rfl, ?_⟩) ?_ ?_
                rotate_left
                · intro w'
                  go_simp
                  with_reducible rfl
                rotate_left
                · simp only [Act.put, lsA, lsB, lsC, i64_w, i32_w]
                  rfl
                refine one_ (i := 4) (N := some 13) #[true, true, true, true, true, false, true, true, true, true, false, false, false, false] rfl rfl (one_of HT_.out (by kernel_rfl)) (by decide) (fun K hK => ?_)
                refine goes_ Try.func50 (by kernel_rfl) rfl #[.int .i64 a0_1] (by rfl) rfl rfl (by (try simp only [lsD, lsE, lsF]); first | done | rfl | (simp only [lsG, lsH]; rfl)) ?_
                with_reducible refine (nums_Print.calls k a0_1 t123 _ A5.out).mono ?_
                rintro e w17 ⟨rfl, hb⟩
                refine ⟨_, rfl, ?_⟩
                have n0_ := AsZ.mk (bBl (g := gb121) (o := .cells #[.bool true, .int .i64 a0_1, .int .i64 a0_2, .int .i64 a0_3] 59 (0, 0)) (by (with_reducible repeat first | apply bDn | apply bDr | apply bAl); exact BK121.out) hb)
                have n1_ := AsZ.mk (tBl (by repeat (first | (with_reducible first | exact HB.out | apply aBl | apply pBd | apply dBl | refine sBl ?_ GE121.out) | exact HB.out)) hb)
                clear BK121
                clear HB
                have BK121 := n0_
                have HB := n1_
                clear n0_ n1_
                (try clear hb)
                (try clear hb2)
                (try clear hk)
                (try clear hi)
                refine hK.out _ _ ⟨(bCe BK121.out 0).trans rfl, (bCe BK121.out 1).trans rfl, (bCe BK121.out 2).trans rfl, (bCe BK121.out 3).trans rfl⟩ (fun hHeld => ?_)
                clear hK K
                refine norm_ (a' := ?_) ?_ ?_
                rotate_left
                · show Act.put _ (some 13) _ = _
                  simp only [Act.put, lsA, lsB, lsC, i64_w, i32_w]
                  rfl
                refine pure_ (i := 5) (N := some 14) (v := ?_) (a' := ?_) #[true, true, true, true, true, true, true, true, true, true, false, false, false, false] rfl rfl (any_of HT_.out (by kernel_rfl)) (fun _ _ _ h => h) (Or.inl ⟨by rfl, ?_⟩) ?_ ?_
                rotate_left
                · intro w'
                  go_simp
                  with_reducible rfl
                rotate_left
                · simp only [Act.put, lsA, lsB, lsC, i64_w, i32_w]
                  rfl
                refine one_ (i := 10) (N := some 19) #[true, true, true, true, true, true, true, true, true, true, true, false, false, false] rfl rfl (one_of HT_.out (by kernel_rfl)) (by decide) (fun K hK => ?_)
                refine goes_ Try.func50 (by kernel_rfl) rfl #[.int .i64 (wrap64 (a0_2 - 1))] (by rfl) rfl rfl (by (try simp only [lsD, lsE, lsF]); first | done | rfl | (simp only [lsG, lsH]; rfl)) ?_
                with_reducible refine (nums_Print.calls k (wrap64 (a0_2 - 1)) t124 _ A7.out).mono ?_
                rintro e w18 ⟨rfl, hb⟩
                refine ⟨_, rfl, ?_⟩
                have n0_ := AsZ.mk (bBl (g := gb121) (o := .cells #[.bool true, .int .i64 a0_1, .int .i64 a0_2, .int .i64 a0_3] 59 (0, 0)) (by (with_reducible repeat first | apply bDn | apply bDr | apply bAl); exact BK121.out) hb)
                have n1_ := AsZ.mk (tBl (by repeat (first | (with_reducible first | exact HB.out | apply aBl | apply pBd | apply dBl | refine sBl ?_ GE121.out) | exact HB.out)) hb)
                clear BK121
                clear HB
                have BK121 := n0_
                have HB := n1_
                clear n0_ n1_
                (try clear hb)
                (try clear hb2)
                (try clear hk)
                (try clear hi)
                refine hK.out _ _ ⟨(bCe BK121.out 0).trans rfl, (bCe BK121.out 1).trans rfl, (bCe BK121.out 2).trans rfl, (bCe BK121.out 3).trans rfl⟩ (fun hHeld => ?_)
                clear hK K
                refine norm_ (a' := ?_) ?_ ?_
                rotate_left
                · show Act.put _ (some 19) _ = _
                  simp only [Act.put, lsA, lsB, lsC, i64_w, i32_w]
                  rfl
                refine pure_ (i := 11) (N := some 20) (v := ?_) (a' := ?_) #[true, true, true, true, true, true, true, true, true, true, true, true, false, false] rfl rfl (any_of HT_.out (by kernel_rfl)) (fun _ _ _ h => h) (Or.inl ⟨by rfl, ?_⟩) ?_ ?_
                rotate_left
                · intro w'
                  go_simp
                  with_reducible rfl
                rotate_left
                · simp only [Act.put, lsA, lsB, lsC, i64_w, i32_w]
                  rfl
                refine pure_ (i := 12) (N := some 21) (v := ?_) (a' := ?_) #[true, true, true, true, true, true, true, true, true, true, true, true, true, false] rfl rfl (any_of HT_.out (by kernel_rfl)) (fun _ _ _ h => h) (Or.inl ⟨by rfl, ?_⟩) ?_ ?_
                rotate_left
                · intro w'
                  go_simp
                  with_reducible rfl
                rotate_left
                · simp only [Act.put, lsA, lsB, lsC, i64_w, i32_w]
                  rfl
                refine pure_ (i := 13) (N := some 3) (v := ?_) (a' := ?_) #[true, true, true, true, true, true, true, true, true, true, true, true, true, true] rfl rfl (any_of HT_.out (by kernel_rfl)) (fun _ _ _ h => h) (Or.inl ⟨by rfl, ?_⟩) ?_ ?_
                rotate_left
                · intro w'
                  go_simp
                  with_reducible rfl
                rotate_left
                · simp only [Act.put, lsA, lsB, lsC, i64_w, i32_w]
                  rfl
                refine done_ (done_of HT_.out (by kernel_rfl)) ?_
                obtain ⟨hcz19_0, hcz19_1, hcz19_2, hcz19_3⟩ := celN4 BK121.out
                obtain ⟨hfz19_0, hfz19_1, hfz19_2, hfz19_3⟩ := fzN4 BK121.out
                try go_wp2
                go_ret
                exact ⟨by first | rfl | exact nEm _ | exact eEm _ | (simp [eWn, eWs] <;> rfl) | (simp [*, eWn, eWs] <;> rfl), by repeat (first | (with_reducible first | exact HB.out | apply aBl | apply pBd | apply dBl | refine sBl ?_ GE121.out) | exact HB.out)⟩
              · rw [if_neg c11] at H
                exact absurd H (by simp)
            · rw [if_neg c10] at H
              have c10b0 : (a0_3 == (-1)) = false := beq_eq_false_iff_ne.mpr c10
              have c10b1 : (a0_3 != (-1)) = true := bne_iff_ne.mpr c10
              by_cases c20 : 6 + (t123.size + 1 + t124.size) + 1 ≤ 9223372036854775807
              · rw [if_pos c20] at H
                have c20b0 := eq_true c20
                have c20b1 : decide (6 + (t123.size + 1 + t124.size) + 1 ≤ 9223372036854775807) = true := decide_eq_true c20
                try have c20b2 : (9223372036854775807 < 6 + (t123.size + 1 + t124.size) + 1) = False := eq_false (Nat.not_lt.2 c20)
                replace H := Option.bind_eq_some_iff.mp H
                obtain ⟨t125, A210, H⟩ := H
                replace H : (if 6 + (t123.size + 1 + t124.size) + 1 + t125.size ≤ 9223372036854775807 then (some ((((⟨#[98, 121, 116, 101, 115, 32]⟩ : ByteArray) ++ ((t123 ++ (⟨#[45]⟩ : ByteArray)) ++ t124)) ++ (⟨#[47]⟩ : ByteArray)) ++ t125)) else (none)) = some r := H
                have A21 := AsZ.mk A210
                clear A210
                by_cases c22 : 6 + (t123.size + 1 + t124.size) + 1 + t125.size ≤ 9223372036854775807
                · rw [if_pos c22] at H
                  have c22b0 := eq_true c22
                  have c22b1 : decide (6 + (t123.size + 1 + t124.size) + 1 + t125.size ≤ 9223372036854775807) = true := decide_eq_true c22
                  try have c22b2 : (9223372036854775807 < 6 + (t123.size + 1 + t124.size) + 1 + t125.size) = False := eq_false (Nat.not_lt.2 c22)
                  obtain rfl := Option.some.inj H
                  go_enter Try.func43, Try.ntmps43
                  try go_wp2_with (first | ((with_reducible refine gDs (N := 1) rfl ?_); refine bEv ?hg (N := 1) ?hd (cs := #[.bool true, .int .i64 a0_1, .int .i64 a0_2, .int .i64 a0_3]) (t := 59) ?hr ?_; (case hd => rfl); (case hg => rfl); (case hr => first | (go_simp; done) | (go_simp; rfl)); intro gb121 hg w23 hbox hb; have n0_ := AsZ.mk (tBl (by repeat (first | (with_reducible first | exact HB.out | apply aBl | apply pBd | apply dBl) | exact HB.out)) hb); have n1_ := AsZ.mk (hbox); have n2_ := AsZ.mk ((by rw [hg]; exact (zBl (by repeat (first | (with_reducible first | exact HB.out | apply aBl | apply pBd | apply dBl) | exact HB.out))) : w.heap.size ≤ gb121)); have n3_ := AsZ.mk ((by rw [hg]; exact (zBl (by repeat (first | (with_reducible first | exact HB.out | apply aBl | apply pBd | apply dBl) | exact HB.out))) : w.heap.size ≤ gb121)); clear HB; have HB := n0_; have BK121 := n1_; have GW121 := n2_; have GE121 := n3_; clear n0_ n1_ n2_ n3_; clear hb hbox hg; obtain ⟨hcz24_0, hcz24_1, hcz24_2, hcz24_3⟩ := celN4 BK121.out; obtain ⟨hfz24_0, hfz24_1, hfz24_2, hfz24_3⟩ := fzN4 BK121.out) | ((with_reducible refine gCa (f := 51) rfl ?_); refine gLl (some 5) rfl rfl Try.func51 (by kernel_rfl) rfl #[.agg #[.bool true, .int .i64 a0_1, .int .i64 a0_2, .int .i64 a0_3]] rfl (by (try simp only [lsD, lsE, lsF]); first | done | rfl | (simp only [lsG, lsH]; rfl)) ?_; (with_reducible refine (crange_Right.calls k true a0_1 a0_2 a0_3 true _ A2.out).mono ?_); rintro e w25 ⟨rfl, hb⟩; refine ⟨_, rfl, ?_⟩; have n0_ := AsZ.mk (bBl (g := gb121) (o := .cells #[.bool true, .int .i64 a0_1, .int .i64 a0_2, .int .i64 a0_3] 59 (0, 0)) (by (with_reducible repeat first | apply bDn | apply bDr | apply bAl); exact BK121.out) hb); have n1_ := AsZ.mk (tBl (by repeat (first | (with_reducible first | exact HB.out | apply aBl | apply pBd | apply dBl | refine sBl ?_ GE121.out) | exact HB.out)) hb); clear BK121; clear HB; have BK121 := n0_; have HB := n1_; clear n0_ n1_; (try clear hb); (try clear hb2); (try clear hk); (try clear hi); obtain ⟨hcz26_0, hcz26_1, hcz26_2, hcz26_3⟩ := celN4 BK121.out; obtain ⟨hfz26_0, hfz26_1, hfz26_2, hfz26_3⟩ := fzN4 BK121.out))
                  have n0_ := AsZ.mk (bDr BK121.out)
                  have n1_ := AsZ.mk (dBl HB.out)
                  clear BK121
                  clear HB
                  have BK121 := n0_
                  have HB := n1_
                  clear n0_ n1_
                  refine start_ (n := 14) (S := fun w' => w'.cell? ⟨gb121, 0, none⟩ = some (.bool true) ∧ w'.cell? ⟨gb121, 1, none⟩ = some (.int .i64 a0_1) ∧ w'.cell? ⟨gb121, 2, none⟩ = some (.int .i64 a0_2) ∧ w'.cell? ⟨gb121, 3, none⟩ = some (.int .i64 a0_3)) (ds := []) #[false, false, false, false, false, false, false, false, false, false, false, false, false, false] (by kernel_rfl) rfl rfl ⟨(bCe BK121.out 0).trans rfl, (bCe BK121.out 1).trans rfl, (bCe BK121.out 2).trans rfl, (bCe BK121.out 3).trans rfl⟩ (fun hHeld => ?_); refine with_tabW crange_Print.tab5 crange_Print.bits5 (fun HT_ HW_ => ?_)
                  generalize w25.drew = w27 at BK121 HB hHeld ⊢
                  refine pure_ (i := 0) (N := some 9) (v := ?_) (a' := ?_) #[true, false, false, false, false, false, false, false, false, false, false, false, false, false] rfl rfl (any_of HT_.out (by kernel_rfl)) (fun _ _ _ h => h) (Or.inl ⟨by rfl, ?_⟩) ?_ ?_
                  rotate_left
                  · intro w'
                    go_simp
                    with_reducible rfl
                  rotate_left
                  · simp only [Act.put, lsA, lsB, lsC, i64_w, i32_w]
                    rfl
                  refine pure_ (i := 1) (N := some 10) (v := ?_) (a' := ?_) #[true, true, false, false, false, false, false, false, false, false, false, false, false, false] rfl rfl (any_of HT_.out (by kernel_rfl)) (fun _ _ _ h => h) (Or.inl ⟨by rfl, ?_⟩) ?_ ?_
                  rotate_left
                  · intro w'
                    go_simp
                    with_reducible rfl
                  rotate_left
                  · simp only [Act.put, lsA, lsB, lsC, i64_w, i32_w]
                    rfl
                  refine pure_ (i := 2) (N := some 11) (v := ?_) (a' := ?_) #[true, true, true, false, false, false, false, false, false, false, false, false, false, false] rfl rfl (any_of HT_.out (by kernel_rfl)) (fun _ _ _ h => h) (Or.inl ⟨by rfl, ?_⟩) ?_ ?_
                  rotate_left
                  · intro w'
                    go_simp
                    with_reducible rfl
                  rotate_left
                  · simp only [Act.put, lsA, lsB, lsC, i64_w, i32_w]
                    rfl
                  refine pure_ (i := 6) (N := some 15) (v := ?_) (a' := ?_) #[true, true, true, false, false, false, true, false, false, false, false, false, false, false] rfl rfl (any_of HT_.out (by kernel_rfl)) (fun _ _ _ h => h) (Or.inl ⟨by rfl, ?_⟩) ?_ ?_
                  rotate_left
                  · intro w'
                    go_simp
                    with_reducible rfl
                  rotate_left
                  · simp only [Act.put, lsA, lsB, lsC, i64_w, i32_w]
                    rfl
                  refine pure_ (i := 7) (N := some 16) (v := ?_) (a' := ?_) #[true, true, true, false, false, false, true, true, false, false, false, false, false, false] rfl rfl (any_of HT_.out (by kernel_rfl)) (fun _ _ _ h => h) (Or.inl ⟨by rfl, ?_⟩) ?_ ?_
                  rotate_left
                  · intro w'
                    go_simp
                    with_reducible rfl
                  rotate_left
                  · simp only [Act.put, lsA, lsB, lsC, i64_w, i32_w]
                    rfl
                  refine take_ (i := 3) (N := some 12) (v := ?_) (a' := ?_) #[true, true, true, true, false, false, true, true, false, false, false, false, false, false] rfl rfl (take_ofW HT_.out HW_.out (by kernel_rfl)) (fun _ _ _ h => h) (Or.inl ⟨by rfl, ?_⟩) hHeld ?_ ?_
                  rotate_left
                  · rintro w' ⟨s0, s1, s2, s3⟩
                    go_simp
                    with_reducible rfl
                  rotate_left
                  · simp only [Act.put, lsA, lsB, lsC, i64_w, i32_w]
                    rfl
                  refine take_ (i := 8) (N := some 17) (v := ?_) (a' := ?_) #[true, true, true, true, false, false, true, true, true, false, false, false, false, false] rfl rfl (take_ofW HT_.out HW_.out (by kernel_rfl)) (fun _ _ _ h => h) (Or.inl ⟨by rfl, ?_⟩) hHeld ?_ ?_
                  rotate_left
                  · rintro w' ⟨s0, s1, s2, s3⟩
                    go_simp
                    with_reducible rfl
                  rotate_left
                  · simp only [Act.put, lsA, lsB, lsC, i64_w, i32_w]
                    rfl
                  refine pure_ (i := 9) (N := some 18) (v := ?_) (a' := ?_) #[true, true, true, true, false, false, true, true, true, true, false, false, false, false] rfl rfl (any_of HT_.out (by kernel_rfl)) (fun _ _ _ h => h) (Or.inl ⟨by rfl, ?_⟩) ?_ ?_
                  rotate_left
                  · intro w'
                    go_simp
                    with_reducible rfl
                  rotate_left
                  · simp only [Act.put, lsA, lsB, lsC, i64_w, i32_w]
                    rfl
                  refine one_ (i := 4) (N := some 13) #[true, true, true, true, true, false, true, true, true, true, false, false, false, false] rfl rfl (one_of HT_.out (by kernel_rfl)) (by decide) (fun K hK => ?_)
                  refine goes_ Try.func50 (by kernel_rfl) rfl #[.int .i64 a0_1] (by rfl) rfl rfl (by (try simp only [lsD, lsE, lsF]); first | done | rfl | (simp only [lsG, lsH]; rfl)) ?_
                  with_reducible refine (nums_Print.calls k a0_1 t123 _ A5.out).mono ?_
                  rintro e w28 ⟨rfl, hb⟩
                  refine ⟨_, rfl, ?_⟩
                  have n0_ := AsZ.mk (bBl (g := gb121) (o := .cells #[.bool true, .int .i64 a0_1, .int .i64 a0_2, .int .i64 a0_3] 59 (0, 0)) (by (with_reducible repeat first | apply bDn | apply bDr | apply bAl); exact BK121.out) hb)
                  have n1_ := AsZ.mk (tBl (by repeat (first | (with_reducible first | exact HB.out | apply aBl | apply pBd | apply dBl | refine sBl ?_ GE121.out) | exact HB.out)) hb)
                  clear BK121
                  clear HB
                  have BK121 := n0_
                  have HB := n1_
                  clear n0_ n1_
                  (try clear hb)
                  (try clear hb2)
                  (try clear hk)
                  (try clear hi)
                  refine hK.out _ _ ⟨(bCe BK121.out 0).trans rfl, (bCe BK121.out 1).trans rfl, (bCe BK121.out 2).trans rfl, (bCe BK121.out 3).trans rfl⟩ (fun hHeld => ?_)
                  clear hK K
                  refine norm_ (a' := ?_) ?_ ?_
                  rotate_left
                  · show Act.put _ (some 13) _ = _
                    simp only [Act.put, lsA, lsB, lsC, i64_w, i32_w]
                    rfl
                  refine pure_ (i := 5) (N := some 14) (v := ?_) (a' := ?_) #[true, true, true, true, true, true, true, true, true, true, false, false, false, false] rfl rfl (any_of HT_.out (by kernel_rfl)) (fun _ _ _ h => h) (Or.inl ⟨by rfl, ?_⟩) ?_ ?_
                  rotate_left
                  · intro w'
                    go_simp
                    with_reducible rfl
                  rotate_left
                  · simp only [Act.put, lsA, lsB, lsC, i64_w, i32_w]
                    rfl
                  refine one_ (i := 10) (N := some 19) #[true, true, true, true, true, true, true, true, true, true, true, false, false, false] rfl rfl (one_of HT_.out (by kernel_rfl)) (by decide) (fun K hK => ?_)
                  refine goes_ Try.func50 (by kernel_rfl) rfl #[.int .i64 (wrap64 (a0_2 - 1))] (by rfl) rfl rfl (by (try simp only [lsD, lsE, lsF]); first | done | rfl | (simp only [lsG, lsH]; rfl)) ?_
                  with_reducible refine (nums_Print.calls k (wrap64 (a0_2 - 1)) t124 _ A7.out).mono ?_
                  rintro e w29 ⟨rfl, hb⟩
                  refine ⟨_, rfl, ?_⟩
                  have n0_ := AsZ.mk (bBl (g := gb121) (o := .cells #[.bool true, .int .i64 a0_1, .int .i64 a0_2, .int .i64 a0_3] 59 (0, 0)) (by (with_reducible repeat first | apply bDn | apply bDr | apply bAl); exact BK121.out) hb)
                  have n1_ := AsZ.mk (tBl (by repeat (first | (with_reducible first | exact HB.out | apply aBl | apply pBd | apply dBl | refine sBl ?_ GE121.out) | exact HB.out)) hb)
                  clear BK121
                  clear HB
                  have BK121 := n0_
                  have HB := n1_
                  clear n0_ n1_
                  (try clear hb)
                  (try clear hb2)
                  (try clear hk)
                  (try clear hi)
                  refine hK.out _ _ ⟨(bCe BK121.out 0).trans rfl, (bCe BK121.out 1).trans rfl, (bCe BK121.out 2).trans rfl, (bCe BK121.out 3).trans rfl⟩ (fun hHeld => ?_)
                  clear hK K
                  refine norm_ (a' := ?_) ?_ ?_
                  rotate_left
                  · show Act.put _ (some 19) _ = _
                    simp only [Act.put, lsA, lsB, lsC, i64_w, i32_w]
                    rfl
                  refine pure_ (i := 11) (N := some 20) (v := ?_) (a' := ?_) #[true, true, true, true, true, true, true, true, true, true, true, true, false, false] rfl rfl (any_of HT_.out (by kernel_rfl)) (fun _ _ _ h => h) (Or.inl ⟨by rfl, ?_⟩) ?_ ?_
                  rotate_left
                  · intro w'
                    go_simp
                    with_reducible rfl
                  rotate_left
                  · simp only [Act.put, lsA, lsB, lsC, i64_w, i32_w]
                    rfl
                  refine pure_ (i := 12) (N := some 21) (v := ?_) (a' := ?_) #[true, true, true, true, true, true, true, true, true, true, true, true, true, false] rfl rfl (any_of HT_.out (by kernel_rfl)) (fun _ _ _ h => h) (Or.inl ⟨by rfl, ?_⟩) ?_ ?_
                  rotate_left
                  · intro w'
                    go_simp
                    with_reducible rfl
                  rotate_left
                  · simp only [Act.put, lsA, lsB, lsC, i64_w, i32_w]
                    rfl
                  refine pure_ (i := 13) (N := some 3) (v := ?_) (a' := ?_) #[true, true, true, true, true, true, true, true, true, true, true, true, true, true] rfl rfl (any_of HT_.out (by kernel_rfl)) (fun _ _ _ h => h) (Or.inl ⟨by rfl, ?_⟩) ?_ ?_
                  rotate_left
                  · intro w'
                    go_simp
                    with_reducible rfl
                  rotate_left
                  · simp only [Act.put, lsA, lsB, lsC, i64_w, i32_w]
                    rfl
                  refine done_ (done_of HT_.out (by kernel_rfl)) ?_
                  obtain ⟨hcz30_0, hcz30_1, hcz30_2, hcz30_3⟩ := celN4 BK121.out
                  obtain ⟨hfz30_0, hfz30_1, hfz30_2, hfz30_3⟩ := fzN4 BK121.out
                  try go_wp2_with (first | ((with_reducible refine gCa (f := 50) rfl ?_); refine gLl (some 33) rfl rfl Try.func50 (by kernel_rfl) rfl #[.int .i64 a0_3] rfl (by (try simp only [lsD, lsE, lsF]); first | done | rfl | (simp only [lsG, lsH]; rfl)) ?_; (with_reducible refine (nums_Print.calls k a0_3 t125 _ A21.out).mono ?_); rintro e w31 ⟨rfl, hb⟩; refine ⟨_, rfl, ?_⟩; have n0_ := AsZ.mk (bBl (g := gb121) (o := .cells #[.bool true, .int .i64 a0_1, .int .i64 a0_2, .int .i64 a0_3] 59 (0, 0)) (by (with_reducible repeat first | apply bDn | apply bDr | apply bAl); exact BK121.out) hb); have n1_ := AsZ.mk (tBl (by repeat (first | (with_reducible first | exact HB.out | apply aBl | apply pBd | apply dBl | refine sBl ?_ GE121.out) | exact HB.out)) hb); clear BK121; clear HB; have BK121 := n0_; have HB := n1_; clear n0_ n1_; (try clear hb); (try clear hb2); (try clear hk); (try clear hi)))
                  go_ret
                  exact ⟨by first | rfl | exact nEm _ | exact eEm _ | (simp [eWn, eWs] <;> rfl) | (simp [*, eWn, eWs] <;> rfl), by repeat (first | (with_reducible first | exact HB.out | apply aBl | apply pBd | apply dBl | refine sBl ?_ GE121.out) | exact HB.out)⟩
                · rw [if_neg c22] at H
                  exact absurd H (by simp)
              · rw [if_neg c20] at H
                exact absurd H (by simp)
          · rw [if_neg c9] at H
            exact absurd H (by simp)
        · rw [if_neg c8] at H
          exact absurd H (by simp)
      · rw [if_neg c6] at H
        exact absurd H (by simp)
    · replace c4 := Bool.eq_false_iff.mpr c4
      subst c4
      have H1 : (if 6 + 1 ≤ 9223372036854775807 then (if a0_3 = (-1) then (if 7 + 2 ≤ 9223372036854775807 then (some (((⟨#[98, 121, 116, 101, 115, 32]⟩ : ByteArray) ++ (⟨#[42]⟩ : ByteArray)) ++ (⟨#[47, 42]⟩ : ByteArray))) else (none)) else (if 7 + 1 ≤ 9223372036854775807 then ((nums_Print.f k a0_3).bind fun t126 => (if 8 + t126.size ≤ 9223372036854775807 then (some ((((⟨#[98, 121, 116, 101, 115, 32]⟩ : ByteArray) ++ (⟨#[42]⟩ : ByteArray)) ++ (⟨#[47]⟩ : ByteArray)) ++ t126)) else (none))) else (none))) else (none)) = some r := by rw [if_neg (show ¬ (false = true) by decide)] at H; exact H
      clear H
      have H := H1
      clear H1
      by_cases c32 : 6 + 1 ≤ 9223372036854775807
      · rw [if_pos c32] at H
        have c32b0 := eq_true c32
        have c32b1 : decide (6 + 1 ≤ 9223372036854775807) = true := decide_eq_true c32
        try have c32b2 : (9223372036854775807 < 6 + 1) = False := eq_false (Nat.not_lt.2 c32)
        by_cases c33 : a0_3 = (-1)
        · rw [if_pos c33] at H
          have c33b0 : (a0_3 == (-1)) = true := beq_iff_eq.mpr c33
          have c33b1 : (a0_3 != (-1)) = false := bne_eq_false_iff_eq.mpr c33
          clear c33
          by_cases c34 : 7 + 2 ≤ 9223372036854775807
          · rw [if_pos c34] at H
            have c34b0 := eq_true c34
            have c34b1 : decide (7 + 2 ≤ 9223372036854775807) = true := decide_eq_true c34
            try have c34b2 : (9223372036854775807 < 7 + 2) = False := eq_false (Nat.not_lt.2 c34)
            obtain rfl := Option.some.inj H
            go_enter Try.func43, Try.ntmps43
            go_wp2_with (first | ((with_reducible refine gDs (N := 1) rfl ?_); refine bEv ?hg (N := 1) ?hd (cs := #[.bool false, .int .i64 a0_1, .int .i64 a0_2, .int .i64 a0_3]) (t := 59) ?hr ?_; (case hd => rfl); (case hg => rfl); (case hr => first | (go_simp; done) | (go_simp; rfl)); intro gb121 hg w35 hbox hb; have n0_ := AsZ.mk (tBl (by repeat (first | (with_reducible first | exact HB.out | apply aBl | apply pBd | apply dBl) | exact HB.out)) hb); have n1_ := AsZ.mk (hbox); have n2_ := AsZ.mk ((by rw [hg]; exact (zBl (by repeat (first | (with_reducible first | exact HB.out | apply aBl | apply pBd | apply dBl) | exact HB.out))) : w.heap.size ≤ gb121)); have n3_ := AsZ.mk ((by rw [hg]; exact (zBl (by repeat (first | (with_reducible first | exact HB.out | apply aBl | apply pBd | apply dBl) | exact HB.out))) : w.heap.size ≤ gb121)); clear HB; have HB := n0_; have BK121 := n1_; have GW121 := n2_; have GE121 := n3_; clear n0_ n1_ n2_ n3_; clear hb hbox hg; obtain ⟨hcz36_0, hcz36_1, hcz36_2, hcz36_3⟩ := celN4 BK121.out; obtain ⟨hfz36_0, hfz36_1, hfz36_2, hfz36_3⟩ := fzN4 BK121.out) | ((with_reducible refine gCa (f := 51) rfl ?_); refine gLl (some 5) rfl rfl Try.func51 (by kernel_rfl) rfl #[.agg #[.bool false, .int .i64 a0_1, .int .i64 a0_2, .int .i64 a0_3]] rfl (by (try simp only [lsD, lsE, lsF]); first | done | rfl | (simp only [lsG, lsH]; rfl)) ?_; (with_reducible refine (crange_Right.calls k false a0_1 a0_2 a0_3 true _ A2.out).mono ?_); rintro e w37 ⟨rfl, hb⟩; refine ⟨_, rfl, ?_⟩; have n0_ := AsZ.mk (bBl (g := gb121) (o := .cells #[.bool false, .int .i64 a0_1, .int .i64 a0_2, .int .i64 a0_3] 59 (0, 0)) (by (with_reducible repeat first | apply bDn | apply bDr | apply bAl); exact BK121.out) hb); have n1_ := AsZ.mk (tBl (by repeat (first | (with_reducible first | exact HB.out | apply aBl | apply pBd | apply dBl | refine sBl ?_ GE121.out) | exact HB.out)) hb); clear BK121; clear HB; have BK121 := n0_; have HB := n1_; clear n0_ n1_; (try clear hb); (try clear hb2); (try clear hk); (try clear hi); obtain ⟨hcz38_0, hcz38_1, hcz38_2, hcz38_3⟩ := celN4 BK121.out; obtain ⟨hfz38_0, hfz38_1, hfz38_2, hfz38_3⟩ := fzN4 BK121.out))
            go_ret
            exact ⟨by first | rfl | exact nEm _ | exact eEm _ | (simp [eWn, eWs] <;> rfl) | (simp [*, eWn, eWs] <;> rfl), by repeat (first | (with_reducible first | exact HB.out | apply aBl | apply pBd | apply dBl | refine sBl ?_ GE121.out) | exact HB.out)⟩
          · rw [if_neg c34] at H
            exact absurd H (by simp)
        · rw [if_neg c33] at H
          have c33b0 : (a0_3 == (-1)) = false := beq_eq_false_iff_ne.mpr c33
          have c33b1 : (a0_3 != (-1)) = true := bne_iff_ne.mpr c33
          by_cases c39 : 7 + 1 ≤ 9223372036854775807
          · rw [if_pos c39] at H
            have c39b0 := eq_true c39
            have c39b1 : decide (7 + 1 ≤ 9223372036854775807) = true := decide_eq_true c39
            try have c39b2 : (9223372036854775807 < 7 + 1) = False := eq_false (Nat.not_lt.2 c39)
            replace H := Option.bind_eq_some_iff.mp H
            obtain ⟨t126, A400, H⟩ := H
            replace H : (if 8 + t126.size ≤ 9223372036854775807 then (some ((((⟨#[98, 121, 116, 101, 115, 32]⟩ : ByteArray) ++ (⟨#[42]⟩ : ByteArray)) ++ (⟨#[47]⟩ : ByteArray)) ++ t126)) else (none)) = some r := H
            have A40 := AsZ.mk A400
            clear A400
            by_cases c41 : 8 + t126.size ≤ 9223372036854775807
            · rw [if_pos c41] at H
              have c41b0 := eq_true c41
              have c41b1 : decide (8 + t126.size ≤ 9223372036854775807) = true := decide_eq_true c41
              try have c41b2 : (9223372036854775807 < 8 + t126.size) = False := eq_false (Nat.not_lt.2 c41)
              obtain rfl := Option.some.inj H
              go_enter Try.func43, Try.ntmps43
              go_wp2_with (first | ((with_reducible refine gDs (N := 1) rfl ?_); refine bEv ?hg (N := 1) ?hd (cs := #[.bool false, .int .i64 a0_1, .int .i64 a0_2, .int .i64 a0_3]) (t := 59) ?hr ?_; (case hd => rfl); (case hg => rfl); (case hr => first | (go_simp; done) | (go_simp; rfl)); intro gb121 hg w42 hbox hb; have n0_ := AsZ.mk (tBl (by repeat (first | (with_reducible first | exact HB.out | apply aBl | apply pBd | apply dBl) | exact HB.out)) hb); have n1_ := AsZ.mk (hbox); have n2_ := AsZ.mk ((by rw [hg]; exact (zBl (by repeat (first | (with_reducible first | exact HB.out | apply aBl | apply pBd | apply dBl) | exact HB.out))) : w.heap.size ≤ gb121)); have n3_ := AsZ.mk ((by rw [hg]; exact (zBl (by repeat (first | (with_reducible first | exact HB.out | apply aBl | apply pBd | apply dBl) | exact HB.out))) : w.heap.size ≤ gb121)); clear HB; have HB := n0_; have BK121 := n1_; have GW121 := n2_; have GE121 := n3_; clear n0_ n1_ n2_ n3_; clear hb hbox hg; obtain ⟨hcz43_0, hcz43_1, hcz43_2, hcz43_3⟩ := celN4 BK121.out; obtain ⟨hfz43_0, hfz43_1, hfz43_2, hfz43_3⟩ := fzN4 BK121.out) | ((with_reducible refine gCa (f := 51) rfl ?_); refine gLl (some 5) rfl rfl Try.func51 (by kernel_rfl) rfl #[.agg #[.bool false, .int .i64 a0_1, .int .i64 a0_2, .int .i64 a0_3]] rfl (by (try simp only [lsD, lsE, lsF]); first | done | rfl | (simp only [lsG, lsH]; rfl)) ?_; (with_reducible refine (crange_Right.calls k false a0_1 a0_2 a0_3 true _ A2.out).mono ?_); rintro e w44 ⟨rfl, hb⟩; refine ⟨_, rfl, ?_⟩; have n0_ := AsZ.mk (bBl (g := gb121) (o := .cells #[.bool false, .int .i64 a0_1, .int .i64 a0_2, .int .i64 a0_3] 59 (0, 0)) (by (with_reducible repeat first | apply bDn | apply bDr | apply bAl); exact BK121.out) hb); have n1_ := AsZ.mk (tBl (by repeat (first | (with_reducible first | exact HB.out | apply aBl | apply pBd | apply dBl | refine sBl ?_ GE121.out) | exact HB.out)) hb); clear BK121; clear HB; have BK121 := n0_; have HB := n1_; clear n0_ n1_; (try clear hb); (try clear hb2); (try clear hk); (try clear hi); obtain ⟨hcz45_0, hcz45_1, hcz45_2, hcz45_3⟩ := celN4 BK121.out; obtain ⟨hfz45_0, hfz45_1, hfz45_2, hfz45_3⟩ := fzN4 BK121.out) | ((with_reducible refine gCa (f := 50) rfl ?_); refine gLl (some 33) rfl rfl Try.func50 (by kernel_rfl) rfl #[.int .i64 a0_3] rfl (by (try simp only [lsD, lsE, lsF]); first | done | rfl | (simp only [lsG, lsH]; rfl)) ?_; (with_reducible refine (nums_Print.calls k a0_3 t126 _ A40.out).mono ?_); rintro e w46 ⟨rfl, hb⟩; refine ⟨_, rfl, ?_⟩; have n0_ := AsZ.mk (bBl (g := gb121) (o := .cells #[.bool false, .int .i64 a0_1, .int .i64 a0_2, .int .i64 a0_3] 59 (0, 0)) (by (with_reducible repeat first | apply bDn | apply bDr | apply bAl); exact BK121.out) hb); have n1_ := AsZ.mk (tBl (by repeat (first | (with_reducible first | exact HB.out | apply aBl | apply pBd | apply dBl | refine sBl ?_ GE121.out) | exact HB.out)) hb); clear BK121; clear HB; have BK121 := n0_; have HB := n1_; clear n0_ n1_; (try clear hb); (try clear hb2); (try clear hk); (try clear hi)))
              go_ret
              exact ⟨by first | rfl | exact nEm _ | exact eEm _ | (simp [eWn, eWs] <;> rfl) | (simp [*, eWn, eWs] <;> rfl), by repeat (first | (with_reducible first | exact HB.out | apply aBl | apply pBd | apply dBl | refine sBl ?_ GE121.out) | exact HB.out)⟩
            · rw [if_neg c41] at H
              exact absurd H (by simp)
          · rw [if_neg c39] at H
            exact absurd H (by simp)
      · rw [if_neg c32] at H
        exact absurd H (by simp)
  · replace c3 := Bool.eq_false_iff.mpr c3
    subst c3
    have H1 : (some (⟨#[]⟩ : ByteArray)) = some r := by rw [if_neg (show ¬ (false = true) by decide)] at H; exact H
    clear H
    have H := H1
    clear H1
    obtain rfl := Option.some.inj H
    go_enter Try.func43, Try.ntmps43
    go_wp2_with (first | ((with_reducible refine gDs (N := 1) rfl ?_); refine bEv ?hg (N := 1) ?hd (cs := #[.bool a0_0, .int .i64 a0_1, .int .i64 a0_2, .int .i64 a0_3]) (t := 59) ?hr ?_; (case hd => rfl); (case hg => rfl); (case hr => first | (go_simp; done) | (go_simp; rfl)); intro gb121 hg w47 hbox hb; have n0_ := AsZ.mk (tBl (by repeat (first | (with_reducible first | exact HB.out | apply aBl | apply pBd | apply dBl) | exact HB.out)) hb); have n1_ := AsZ.mk (hbox); have n2_ := AsZ.mk ((by rw [hg]; exact (zBl (by repeat (first | (with_reducible first | exact HB.out | apply aBl | apply pBd | apply dBl) | exact HB.out))) : w.heap.size ≤ gb121)); have n3_ := AsZ.mk ((by rw [hg]; exact (zBl (by repeat (first | (with_reducible first | exact HB.out | apply aBl | apply pBd | apply dBl) | exact HB.out))) : w.heap.size ≤ gb121)); clear HB; have HB := n0_; have BK121 := n1_; have GW121 := n2_; have GE121 := n3_; clear n0_ n1_ n2_ n3_; clear hb hbox hg; obtain ⟨hcz48_0, hcz48_1, hcz48_2, hcz48_3⟩ := celN4 BK121.out; obtain ⟨hfz48_0, hfz48_1, hfz48_2, hfz48_3⟩ := fzN4 BK121.out) | ((with_reducible refine gCa (f := 51) rfl ?_); refine gLl (some 5) rfl rfl Try.func51 (by kernel_rfl) rfl #[.agg #[.bool a0_0, .int .i64 a0_1, .int .i64 a0_2, .int .i64 a0_3]] rfl (by (try simp only [lsD, lsE, lsF]); first | done | rfl | (simp only [lsG, lsH]; rfl)) ?_; (with_reducible refine (crange_Right.calls k a0_0 a0_1 a0_2 a0_3 false _ A2.out).mono ?_); rintro e w49 ⟨rfl, hb⟩; refine ⟨_, rfl, ?_⟩; have n0_ := AsZ.mk (bBl (g := gb121) (o := .cells #[.bool a0_0, .int .i64 a0_1, .int .i64 a0_2, .int .i64 a0_3] 59 (0, 0)) (by (with_reducible repeat first | apply bDn | apply bDr | apply bAl); exact BK121.out) hb); have n1_ := AsZ.mk (tBl (by repeat (first | (with_reducible first | exact HB.out | apply aBl | apply pBd | apply dBl | refine sBl ?_ GE121.out) | exact HB.out)) hb); clear BK121; clear HB; have BK121 := n0_; have HB := n1_; clear n0_ n1_; (try clear hb); (try clear hb2); (try clear hk); (try clear hi)))
    go_ret
    exact ⟨by first | rfl | exact nEm _ | exact eEm _ | (simp [eWn, eWs] <;> rfl) | (simp [*, eWn, eWs] <;> rfl), by repeat (first | (with_reducible first | exact HB.out | apply aBl | apply pBd | apply dBl | refine sBl ?_ GE121.out) | exact HB.out)⟩
def crange_Of.f (k : Nat) (a0_0 : Int) (a0_1 : Int) (a1 : Int) : Option (ByteArray) := (crange_Print.f k true a0_0 a0_1 a1).bind fun t128 => (some t128)
theorem crange_Of.mono : ∀ a0 a1 a2 k, LeO (crange_Of.f k a0 a1 a2) (crange_Of.f (k + 1) a0 a1 a2) := by
  intro a0 a1 a2 k
  unfold crange_Of.f
  repeat' first
      | (with_reducible exact crange_Print.mono _ _ _ _ _)
      | (with_reducible exact LeO.refl _)
      | (with_reducible exact LeO.none _)
      | (with_reducible refine LeO.ite ?_ ?_)
      | (with_reducible refine LeO.bind ?_ (fun _ => ?_))
      | exact crange_Print.mono _ _ _ _ _
      | exact LeO.none _
      | refine LeO.ite ?_ ?_
      | refine LeO.bind ?_ (fun _ => ?_)
set_option maxHeartbeats 8000000 in
set_option maxRecDepth 100000 in
theorem crange_Of.calls (k : Nat) (a0_0 : Int) (a0_1 : Int) (a1 : Int) (r : ByteArray) (w : World) (h : crange_Of.f k a0_0 a0_1 a1 = some r) :
    Calls Try.prog 44 #[.agg #[.int .i64 a0_0, .int .i64 a0_1], .int .i64 a1] w fun e w' => e = .returned (.string r) ∧ Below w.heap.size w w' := by
  have hu30 := Try.underlying30
  have hu59 := Try.underlying59
  have HB := AsZ.mk (Below.refl w.heap.size w)
  have H : ((crange_Print.f k true a0_0 a0_1 a1).bind fun t128 => (some t128)) = some r := h
  clear h
  replace H := Option.bind_eq_some_iff.mp H
  obtain ⟨t128, A30, H⟩ := H
  replace H : (some t128) = some r := H
  have A3 := AsZ.mk A30
  clear A30
  obtain rfl := Option.some.inj H
  go_enter Try.func44, Try.ntmps44
  go_wp2_with (first | ((with_reducible refine gDs (N := 2) rfl ?_); refine bEv ?hg (N := 2) ?hd (cs := #[.int .i64 a0_0, .int .i64 a0_1]) (t := 30) ?hr ?_; (case hd => rfl); (case hg => rfl); (case hr => first | (go_simp; done) | (go_simp; rfl)); intro gb127 hg w4 hbox hb; have n0_ := AsZ.mk (tBl (by repeat (first | (with_reducible first | exact HB.out | apply aBl | apply pBd | apply dBl) | exact HB.out)) hb); have n1_ := AsZ.mk (hbox); have n2_ := AsZ.mk ((by rw [hg]; exact (zBl (by repeat (first | (with_reducible first | exact HB.out | apply aBl | apply pBd | apply dBl) | exact HB.out))) : w.heap.size ≤ gb127)); have n3_ := AsZ.mk ((by rw [hg]; exact (zBl (by repeat (first | (with_reducible first | exact HB.out | apply aBl | apply pBd | apply dBl) | exact HB.out))) : w.heap.size ≤ gb127)); clear HB; have HB := n0_; have BK127 := n1_; have GW127 := n2_; have GE127 := n3_; clear n0_ n1_ n2_ n3_; clear hb hbox hg; obtain ⟨hcz5_0, hcz5_1⟩ := celN2 BK127.out; obtain ⟨hfz5_0, hfz5_1⟩ := fzN2 BK127.out) | ((with_reducible refine gCa (f := 43) rfl ?_); refine gLl (some 8) rfl rfl Try.func43 (by kernel_rfl) rfl #[.agg #[.bool true, .int .i64 a0_0, .int .i64 a0_1, .int .i64 a1]] rfl (by (try simp only [lsD, lsE, lsF]); first | done | rfl | (simp only [lsG, lsH]; rfl)) ?_; (with_reducible refine (crange_Print.calls k true a0_0 a0_1 a1 t128 _ A3.out).mono ?_); rintro e w6 ⟨rfl, hb⟩; refine ⟨_, rfl, ?_⟩; have n0_ := AsZ.mk (bBl (g := gb127) (o := .cells #[.int .i64 a0_0, .int .i64 a0_1] 30 (0, 0)) (by (with_reducible repeat first | apply bDn | apply bDr | apply bAl); exact BK127.out) hb); have n1_ := AsZ.mk (tBl (by repeat (first | (with_reducible first | exact HB.out | apply aBl | apply pBd | apply dBl | refine sBl ?_ GE127.out) | exact HB.out)) hb); clear BK127; clear HB; have BK127 := n0_; have HB := n1_; clear n0_ n1_; (try clear hb); (try clear hb2); (try clear hk); (try clear hi)))
  go_ret
  exact ⟨by first | rfl | exact nEm _ | exact eEm _ | (simp [eWn, eWs] <;> rfl) | (simp [*, eWn, eWs] <;> rfl), by repeat (first | (with_reducible first | exact HB.out | apply aBl | apply pBd | apply dBl | refine sBl ?_ GE127.out) | exact HB.out)⟩
def strings_IndexByte.f (a0 : ByteArray) (a1 : Int) : Option Int := some (idxb a0 a1)
theorem strings_IndexByte.calls (a0 : ByteArray) (a1 : Int) (r : Int) (w : World) (h : strings_IndexByte.f a0 a1 = some r) :
    Calls Try.prog 61 #[.string a0, .int .u8 a1] w fun e w' => e = .returned (.int .i64 r) ∧ Drawn0 w w' := by
  obtain rfl := Option.some.inj h
  have hext : ∀ (s : ByteArray) (c : Int) (w : World), (callFunc 66 #[.string s, .int .u8 c]).run Try.prog w = .ok (.value (.int .i64 (idxb s c))) w := fun s c w => by
    rw [run_callFunc_indexByte Try.func66 (by kernel_rfl) (by kernel_rfl) (by kernel_rfl) (by kernel_rfl), Lib.run_indexByteString]; rfl
  go_enter Try.func61, Try.ntmps61
  go_wp2
  go_ret
  exact ⟨rfl, Drawn0.refl _⟩
end Go.Proofs.Ytpphnjmppkbpbaa.PAll
namespace Go.Proofs.Ytpphnjmppkbpbaa.PAll
open Go.RowKit Go.Proofs.Ytpphnjmppkbpbaa.Xw Go.Proofs.YtpphnjmppkbpbaaW.PrintWords Go.Proofs.YtpphnjmppkbpbaaW.PrintLast Go.Proofs.YtpphnjmppkbpbaaW.PrintMore
attribute [local go_sem] max2_int min2_int max_two min_two max_three min_three max_four min_four
set_option linter.unusedVariables false
set_option linter.unusedSimpArgs false
def text_Cut.f (a0 : ByteArray) (a1 : Int) : Option (ByteArray × ByteArray × Bool) := (strings_IndexByte.f a0 a1).bind fun t129 => (if t129 < 0 then (some (a0, (⟨#[]⟩ : ByteArray), false)) else (if 0 ≤ t129 then (if t129 ≤ (a0.size : Int) then (if 0 ≤ (wrap64 (t129 + 1)) then (if (wrap64 (t129 + 1)) ≤ (a0.size : Int) then (some (a0.extract 0 (t129 : Int).toNat, a0.extract ((wrap64 (t129 + 1)) : Int).toNat a0.size, true)) else (none)) else (none)) else (none)) else (none)))
set_option maxHeartbeats 8000000 in
set_option maxRecDepth 100000 in
theorem text_Cut.calls (a0 : ByteArray) (a1 : Int) (r1 : ByteArray) (r2 : ByteArray) (r3 : Bool) (w : World) (h : text_Cut.f a0 a1 = some (r1, r2, r3)) :
    Calls Try.prog 58 #[.string a0, .int .u8 a1] w fun e w' => e = .returned (.tuple #[.string r1, .string r2, .bool r3]) ∧ Drawn0 w w' := by
  have H : ((strings_IndexByte.f a0 a1).bind fun t129 => (if t129 < 0 then (some (a0, (⟨#[]⟩ : ByteArray), false)) else (if 0 ≤ t129 then (if t129 ≤ (a0.size : Int) then (if 0 ≤ (wrap64 (t129 + 1)) then (if (wrap64 (t129 + 1)) ≤ (a0.size : Int) then (some (a0.extract 0 (t129 : Int).toNat, a0.extract ((wrap64 (t129 + 1)) : Int).toNat a0.size, true)) else (none)) else (none)) else (none)) else (none)))) = some (r1, r2, r3) := h
  clear h
  replace H := Option.bind_eq_some_iff.mp H
  obtain ⟨t129, A30, H⟩ := H
  replace H : (if t129 < 0 then (some (a0, (⟨#[]⟩ : ByteArray), false)) else (if 0 ≤ t129 then (if t129 ≤ (a0.size : Int) then (if 0 ≤ (wrap64 (t129 + 1)) then (if (wrap64 (t129 + 1)) ≤ (a0.size : Int) then (some (a0.extract 0 (t129 : Int).toNat, a0.extract ((wrap64 (t129 + 1)) : Int).toNat a0.size, true)) else (none)) else (none)) else (none)) else (none))) = some (r1, r2, r3) := H
  have A3 := AsZ.mk A30
  clear A30
  by_cases c4 : t129 < 0
  · rw [if_pos c4] at H
    have c4b0 : decide (t129 < 0) = true := decide_eq_true c4
    clear c4
    simp only [Option.some.injEq, Prod.mk.injEq] at H
    obtain ⟨rfl, rfl, rfl⟩ := H
    go_enter Try.func58, Try.ntmps58
    go_wp2_with (first | (go_at_call 61; (with_reducible refine (strings_IndexByte.calls a0 a1 t129 _ A3.out).mono ?_); rintro e w' ⟨rfl, ⟨nd, rfl⟩⟩; (try first | exact ⟨rfl, _, World.drewN_drewN _ _ _⟩ | exact ⟨rfl, _, Eq.trans (World.drewN_drewN _ _ _) (congrArg (World.drewN _) (Nat.add_assoc _ _ _))⟩)))
    repeat (go_quiet (first | (go_at_call 61; (with_reducible refine (strings_IndexByte.calls a0 a1 t129 _ A3.out).mono ?_); rintro e w' ⟨rfl, ⟨nd, rfl⟩⟩; (try first | exact ⟨rfl, _, World.drewN_drewN _ _ _⟩ | exact ⟨rfl, _, Eq.trans (World.drewN_drewN _ _ _) (congrArg (World.drewN _) (Nat.add_assoc _ _ _))⟩))); try go_wp2_with (first | (go_at_call 61; (with_reducible refine (strings_IndexByte.calls a0 a1 t129 _ A3.out).mono ?_); rintro e w' ⟨rfl, ⟨nd, rfl⟩⟩; (try first | exact ⟨rfl, _, World.drewN_drewN _ _ _⟩ | exact ⟨rfl, _, Eq.trans (World.drewN_drewN _ _ _) (congrArg (World.drewN _) (Nat.add_assoc _ _ _))⟩))))
    go_ret3
    exact ⟨by first | rfl | (simp; done) | (simp [*]; done) | exact nEm _ | exact eEm _, by repeat (first | exact Drawn0.refl _ | apply Drawn0.step)⟩
  · rw [if_neg c4] at H
    have c4b0 : decide (t129 < 0) = false := decide_eq_false c4
    clear c4
    by_cases c5 : 0 ≤ t129
    · rw [if_pos c5] at H
      have c5b0 := eq_true c5
      have c5b1 : decide (0 ≤ t129) = true := decide_eq_true c5
      clear c5
      by_cases c6 : t129 ≤ (a0.size : Int)
      · rw [if_pos c6] at H
        have c6b0 := eq_true c6
        have c6b1 : decide (t129 ≤ (a0.size : Int)) = true := decide_eq_true c6
        clear c6
        obtain ⟨ji7, hji7⟩ : ∃ j_ : Int, (wrap64 (t129 + 1)) = j_ := ⟨_, rfl⟩
        replace H : (if 0 ≤ (ji7) then (if (ji7) ≤ (a0.size : Int) then (some (a0.extract 0 (t129 : Int).toNat, a0.extract ((ji7) : Int).toNat a0.size, true)) else (none)) else (none)) = some (r1, r2, r3) := by first | (rw [hji7] at H; exact H) | (simp only [hji7] at H ⊢; exact H)
        (try rw [hji7] at A3)
        have hji7w : (IntKind.i64.wrap (t129 + 1)) = ji7 := (i64_w _).trans hji7
        by_cases c8 : 0 ≤ (ji7)
        · rw [if_pos c8] at H
          have c8b0 := eq_true c8
          have c8b1 : decide (0 ≤ (ji7)) = true := decide_eq_true c8
          clear c8
          by_cases c9 : (ji7) ≤ (a0.size : Int)
          · rw [if_pos c9] at H
            have c9b0 := eq_true c9
            have c9b1 : decide ((ji7) ≤ (a0.size : Int)) = true := decide_eq_true c9
            clear c9
            simp only [Option.some.injEq, Prod.mk.injEq] at H
            obtain ⟨rfl, rfl, rfl⟩ := H
            go_enter Try.func58, Try.ntmps58
            go_wp2_with (first | (go_at_call 61; (with_reducible refine (strings_IndexByte.calls a0 a1 t129 _ A3.out).mono ?_); rintro e w' ⟨rfl, ⟨nd, rfl⟩⟩; (try first | exact ⟨rfl, _, World.drewN_drewN _ _ _⟩ | exact ⟨rfl, _, Eq.trans (World.drewN_drewN _ _ _) (congrArg (World.drewN _) (Nat.add_assoc _ _ _))⟩)))
            repeat (go_quiet (first | (go_at_call 61; (with_reducible refine (strings_IndexByte.calls a0 a1 t129 _ A3.out).mono ?_); rintro e w' ⟨rfl, ⟨nd, rfl⟩⟩; (try first | exact ⟨rfl, _, World.drewN_drewN _ _ _⟩ | exact ⟨rfl, _, Eq.trans (World.drewN_drewN _ _ _) (congrArg (World.drewN _) (Nat.add_assoc _ _ _))⟩))); try go_wp2_with (first | (go_at_call 61; (with_reducible refine (strings_IndexByte.calls a0 a1 t129 _ A3.out).mono ?_); rintro e w' ⟨rfl, ⟨nd, rfl⟩⟩; (try first | exact ⟨rfl, _, World.drewN_drewN _ _ _⟩ | exact ⟨rfl, _, Eq.trans (World.drewN_drewN _ _ _) (congrArg (World.drewN _) (Nat.add_assoc _ _ _))⟩))))
            go_ret3
            exact ⟨by first | rfl | (simp; done) | (simp only [← hji7] <;> (first | rfl | simp)) | (simp [*]; done), by repeat (first | exact Drawn0.refl _ | apply Drawn0.step)⟩
          · rw [if_neg c9] at H
            exact absurd H (by simp)
        · rw [if_neg c8] at H
          exact absurd H (by simp)
      · rw [if_neg c6] at H
        exact absurd H (by simp)
    · rw [if_neg c5] at H
      exact absurd H (by simp)
def text_Lower.f (a0 : ByteArray) : Option ByteArray := if a0.size ≤ 9223372036854775807 then some (strOfNums ((bytesOf a0).map lowI)) else none
set_option maxHeartbeats 2000000 in
theorem text_Lower.calls (a0 : ByteArray) (r : ByteArray) (w : World) (h : text_Lower.f a0 = some r) :
    Calls Try.prog 62 #[.string a0] w fun e w' => e = .returned (.string r) ∧ Below w.heap.size w w' := by
  have hs : a0.size ≤ 9223372036854775807 := by
    by_cases hs : a0.size ≤ 9223372036854775807
    · exact hs
    · unfold text_Lower.f at h; rw [if_neg hs] at h; cases h
  have hr0 : r = strOfNums ((bytesOf a0).map lowI) := by unfold text_Lower.f at h; rw [if_pos hs] at h; exact (Option.some.inj h).symm
  subst hr0
  clear h
  have kb := fun (s : ByteArray) W => print_bytes (P := Try.prog) 9 38 5 Try.underlying9 Try.underlying38 Try.underlying5 s W
  have hfin : ∀ (W : World) (cap : Nat), (∀ j, j < a0.size → W.cell? ⟨w.heap.size, j, none⟩ = some (.int .u8 (lowAt a0 a0.size j))) →
      (convert 38 9 (.slice (some ⟨w.heap.size, 0, none⟩) a0.size cap)).run Try.prog W = .ok (.string (strOfNums ((bytesOf a0).map lowI))) W := fun W cap hc =>
    run_convert_bytes_arg W 38 5 Try.underlying38 Try.underlying5 w.heap.size 0 a0.size cap _ (low_end a0).1 (fun i hi => by rw [Nat.zero_add, hc i hi, (low_end a0).2 i hi]) 9 Try.underlying9
  have L0 : LowIn a0 w.heap.size 0 w (Lib.bytesWorld w 5 a0) := ⟨fun j hj => low_cell w 5 a0 j hj, fun j hj => low_frozen w 5 a0 j hj, bytes_below (Below.refl _ _) (Nat.le_refl _) 5 a0⟩
  have hfinH := Lib.hid hfin
  clear hfin
  go_enter Try.func62, Try.ntmps62
  go_wp2
  go_loopw [10] (fun i wr => ∃ k : Nat, k ≤ a0.size ∧ i = .int .i64 k ∧ LowIn a0 w.heap.size k w wr) (fun i _ => a0.size - (intOf i).toNat)
  case atStart => exact ⟨0, Nat.zero_le _, rfl, L0⟩
  case round =>
    clear L0
    obtain ⟨k, hk, rfl, L⟩ := hrel
    by_cases hlt : k < a0.size
    · have hc : wr.cell? ⟨w.heap.size, k, none⟩ = some (.int .u8 (bt a0 k)) := by have := L.cells k hlt; unfold lowAt at this; rwa [if_neg (by omega)] at this
      have hf := L.free k hlt
      have hr := bt_range a0 k
      by_cases hA : 65 ≤ bt a0 k
      · by_cases hZ : bt a0 k ≤ 90
        · go_wp2
          go_roundw
          case rel => exact ⟨k + 1, by omega, by go_num, ⟨low_next a0 k wr w.heap.size _ (by unfold lowI; rw [if_pos ⟨hA, hZ⟩]) hlt L.cells, fun j hj => by rw [World.frozen?_setCell]; exact L.free j hj, L.below.setCell (p := ⟨w.heap.size, k, none⟩) (Nat.le_refl _) _⟩⟩
          case measure => simp [intOf]; omega
        · go_wp2
          go_roundw
          case rel => exact ⟨k + 1, by omega, by go_num, ⟨low_stay a0 k wr w.heap.size (by unfold lowI; rw [if_neg (by omega)]) L.cells, L.free, L.below⟩⟩
          case measure => simp [intOf]; omega
      · go_wp2
        go_roundw
        case rel => exact ⟨k + 1, by omega, by go_num, ⟨low_stay a0 k wr w.heap.size (by unfold lowI; rw [if_neg (by omega)]) L.cells, L.free, L.below⟩⟩
        case measure => simp [intOf]; omega
    · obtain rfl : k = a0.size := by omega
      have hcv := fun cap => hfinH.out wr cap L.cells
      go_wp2
      go_ret
      exact ⟨rfl, L.below⟩
def text_Fold.f (a0 : ByteArray) (a1 : ByteArray) : Option (Bool) := (text_Lower.f a0).bind fun t130 => ((text_Lower.f a1).bind fun t131 => (some (t130.toList == t131.toList)))
set_option maxHeartbeats 8000000 in
set_option maxRecDepth 100000 in
theorem text_Fold.calls (a0 : ByteArray) (a1 : ByteArray) (r : Bool) (w : World) (h : text_Fold.f a0 a1 = some r) :
    Calls Try.prog 59 #[.string a0, .string a1] w fun e w' => e = .returned (.bool r) ∧ Below w.heap.size w w' := by
  have HB := AsZ.mk (Below.refl w.heap.size w)
  have H : ((text_Lower.f a0).bind fun t130 => ((text_Lower.f a1).bind fun t131 => (some (t130.toList == t131.toList)))) = some r := h
  clear h
  replace H := Option.bind_eq_some_iff.mp H
  obtain ⟨t130, A30, H⟩ := H
  replace H : ((text_Lower.f a1).bind fun t131 => (some (t130.toList == t131.toList))) = some r := H
  have A3 := AsZ.mk A30
  clear A30
  replace H := Option.bind_eq_some_iff.mp H
  obtain ⟨t131, A40, H⟩ := H
  replace H : (some (t130.toList == t131.toList)) = some r := H
  have A4 := AsZ.mk A40
  clear A40
  obtain rfl := Option.some.inj H
  go_enter Try.func59, Try.ntmps59
  go_wp2_with (first | ((with_reducible refine gCa (f := 62) rfl ?_); refine gLl (some 6) rfl rfl Try.func62 (by kernel_rfl) rfl #[.string a0] rfl (by (try simp only [lsD, lsE, lsF]); first | done | rfl | (simp only [lsG, lsH]; rfl)) ?_; (with_reducible refine (text_Lower.calls a0 t130 _ A3.out).mono ?_); rintro e w5 ⟨rfl, hb⟩; refine ⟨_, rfl, ?_⟩; have n0_ := AsZ.mk (tBl (by repeat (first | (with_reducible first | exact HB.out | apply aBl | apply pBd | apply dBl) | exact HB.out)) hb); clear HB; have HB := n0_; clear n0_; (try clear hb); (try clear hb2); (try clear hk); (try clear hi)) | ((with_reducible refine gCa (f := 62) rfl ?_); refine gLl (some 8) rfl rfl Try.func62 (by kernel_rfl) rfl #[.string a1] rfl (by (try simp only [lsD, lsE, lsF]); first | done | rfl | (simp only [lsG, lsH]; rfl)) ?_; (with_reducible refine (text_Lower.calls a1 t131 _ A4.out).mono ?_); rintro e w6 ⟨rfl, hb⟩; refine ⟨_, rfl, ?_⟩; have n0_ := AsZ.mk (tBl (by repeat (first | (with_reducible first | exact HB.out | apply aBl | apply pBd | apply dBl) | exact HB.out)) hb); clear HB; have HB := n0_; clear n0_; (try clear hb); (try clear hb2); (try clear hk); (try clear hi)))
  go_ret
  exact ⟨by first | rfl | exact nEm _ | exact eEm _ | (simp [eWn, eWs] <;> rfl) | (simp [*, eWn, eWs] <;> rfl), by repeat (first | (with_reducible first | exact HB.out | apply aBl | apply pBd | apply dBl) | exact HB.out)⟩
def nums_digit.f (a0 : Int) : Option (Int × Bool) := if a0 < 48 then (some (0, false)) else (if a0 > 57 then (some (0, false)) else (some ((a0 - 48) % 256, true)))
set_option maxHeartbeats 8000000 in
set_option maxRecDepth 100000 in
theorem nums_digit.calls (a0 : Int) (r1 : Int) (r2 : Bool) (w : World) (h : nums_digit.f a0 = some (r1, r2)) :
    Calls Try.prog 65 #[.int .u8 a0] w fun e w' => e = .returned (.tuple #[.int .i64 r1, .bool r2]) ∧ Drawn0 w w' := by
  have H : (if a0 < 48 then (some (0, false)) else (if a0 > 57 then (some (0, false)) else (some ((a0 - 48) % 256, true)))) = some (r1, r2) := h
  clear h
  by_cases c2 : a0 < 48
  · rw [if_pos c2] at H
    have c2b0 : decide (a0 < 48) = true := decide_eq_true c2
    clear c2
    simp only [Option.some.injEq, Prod.mk.injEq] at H
    obtain ⟨rfl, rfl⟩ := H
    go_enter Try.func65, Try.ntmps65
    go_wp2
    go_ret2
    exact ⟨by first | rfl | (simp; done) | (simp [*]; done) | exact nEm _ | exact eEm _, by repeat (first | exact Drawn0.refl _ | apply Drawn0.step)⟩
  · rw [if_neg c2] at H
    have c2b0 : decide (a0 < 48) = false := decide_eq_false c2
    clear c2
    by_cases c3 : a0 > 57
    · rw [if_pos c3] at H
      have c3b0 : decide (57 < a0) = true := decide_eq_true c3
      clear c3
      simp only [Option.some.injEq, Prod.mk.injEq] at H
      obtain ⟨rfl, rfl⟩ := H
      go_enter Try.func65, Try.ntmps65
      go_wp2
      go_ret2
      exact ⟨by first | rfl | (simp; done) | (simp [*]; done) | exact nEm _ | exact eEm _, by repeat (first | exact Drawn0.refl _ | apply Drawn0.step)⟩
    · rw [if_neg c3] at H
      have c3b0 : decide (57 < a0) = false := decide_eq_false c3
      clear c3
      simp only [Option.some.injEq, Prod.mk.injEq] at H
      obtain ⟨rfl, rfl⟩ := H
      go_enter Try.func65, Try.ntmps65
      go_wp2
      go_ret2
      exact ⟨by first | rfl | (simp; done) | (simp [*]; done) | exact nEm _ | exact eEm _, by repeat (first | exact Drawn0.refl _ | apply Drawn0.step)⟩
def nums_Parse.l0 : Nat → ByteArray → Int → Bool → Int → Int → Option (Int × Int)
  | 0, _, _, _, _, _ => none
  | k + 1, x0, x4, x5, x10, x11 => if x11 < x10 then (if 0 ≤ x11 then (if x11 < (x0.size : Int) then ((nums_digit.f (bt x0 x11)).bind fun bt132 => (if bt132.2 = true then (if x5 = true then (nums_Parse.l0 k x0 x4 x5 x10 (wrap64 (x11 + 1))) else (if x4 > (wrap64 (Int.tdiv (wrap64 (4611686018427387903 - bt132.1)) 10)) then (nums_Parse.l0 k x0 x4 true x10 (wrap64 (x11 + 1))) else (nums_Parse.l0 k x0 (wrap64 ((wrap64 (10 * x4)) + bt132.1)) x5 x10 (wrap64 (x11 + 1))))) else (some (0, 3)))) else (none)) else (none)) else (if x0.toList = ([] : List UInt8) then (some (0, 3)) else (if x5 = true then (some (0, 9)) else (some (x4, 0))))
def nums_Parse.f (k : Nat) (a0 : ByteArray) : Option (Int × Int) := nums_Parse.l0 k a0 0 false (a0.size : Int) 0
theorem nums_Parse.mono_l : ∀ k, (∀ y0 y1 y2 y3 y4, LeO (nums_Parse.l0 k y0 y1 y2 y3 y4) (nums_Parse.l0 (k + 1) y0 y1 y2 y3 y4))
  | 0 => fun _ _ _ _ _ r h => by simp [nums_Parse.l0] at h
  | k + 1 => by
    have ih0 := nums_Parse.mono_l k
    · intro y0 y1 y2 y3 y4
      unfold nums_Parse.l0
      repeat' first
      | (with_reducible exact ih0 _ _ _ _ _)
      | (with_reducible exact LeO.refl _)
      | (with_reducible exact LeO.none _)
      | (with_reducible refine LeO.ite ?_ ?_)
      | (with_reducible refine LeO.bind ?_ (fun _ => ?_))
      | exact ih0 _ _ _ _ _
      | exact LeO.none _
      | refine LeO.ite ?_ ?_
      | refine LeO.bind ?_ (fun _ => ?_)
theorem nums_Parse.mono : ∀ a0 k, LeO (nums_Parse.f k a0) (nums_Parse.f (k + 1) a0) := by
  intro a0 k
  have ih0 := nums_Parse.mono_l k
  unfold nums_Parse.f
  repeat' first
      | (with_reducible exact ih0 _ _ _ _ _)
      | (with_reducible exact LeO.refl _)
      | (with_reducible exact LeO.none _)
      | (with_reducible refine LeO.ite ?_ ?_)
      | (with_reducible refine LeO.bind ?_ (fun _ => ?_))
      | exact ih0 _ _ _ _ _
      | exact LeO.none _
      | refine LeO.ite ?_ ?_
      | refine LeO.bind ?_ (fun _ => ?_)
set_option maxHeartbeats 8000000 in
set_option maxRecDepth 100000 in
theorem nums_Parse.calls (k : Nat) (a0 : ByteArray) (r1 : Int) (r2 : Int) (w : World) (h : nums_Parse.f k a0 = some (r1, r2)) :
    Calls Try.prog 63 #[.string a0] w fun e w' => e = .returned (.tuple #[.int .i64 r1, .int .i64 r2]) ∧ Drawn0 w w' := by
  have H : (nums_Parse.l0 k a0 0 false (a0.size : Int) 0) = some (r1, r2) := h
  clear h
  have H' := AsZ.mk H
  clear H
  go_enter Try.func63, Try.ntmps63
  go_wp2
  try (with_reducible apply wp_scope_straight; go_wp2)
  try (with_reducible apply wp_label; go_wp2)
  go_loopg [4, 5, 11] k (fun kq v4 v5 v11 w' => ∃ (x4_1 : Int) (x5_1 : Bool) (x11_1 : Int), v4 = .int .i64 x4_1 ∧ v5 = .bool x5_1 ∧ v11 = .int .i64 x11_1 ∧ AsZ (nums_Parse.l0 kq a0 x4_1 x5_1 (a0.size : Int) x11_1 = some (r1, r2)) ∧ AsZ (kq ≤ k) ∧ Drawn0 w w')
  case atStart => exact ⟨(0), (false), (0), (by first | rfl | (simp; done) | (simp [*]; done)), (by first | rfl | (simp; done) | (simp [*]; done)), (by first | rfl | (simp; done) | (simp [*]; done)), H', ⟨Nat.le_refl _⟩, by repeat (first | exact Drawn0.refl _ | apply Drawn0.step)⟩
  case round =>
    clear H'
    obtain ⟨x4_1, x5_1, x11_1, rfl, rfl, rfl, HA, HK1, ⟨m1, rfl⟩⟩ := hrel
    cases gk with
    | zero => exact absurd HA.out (by simp [nums_Parse.l0])
    | succ k1 =>
      have H := HA.out
      clear HA
      simp only [nums_Parse.l0] at H
      by_cases c2 : x11_1 < (a0.size : Int)
      · rw [if_pos c2] at H
        have c2b0 : decide (x11_1 < (a0.size : Int)) = true := decide_eq_true c2
        clear c2
        by_cases c3 : 0 ≤ x11_1
        · rw [if_pos c3] at H
          have c3b0 : decide (0 ≤ x11_1) = true := decide_eq_true c3
          clear c3
          by_cases c4 : x11_1 < (a0.size : Int)
          · rw [if_pos c4] at H
            have c4b0 : decide (x11_1 < (a0.size : Int)) = true := decide_eq_true c4
            clear c4
            replace H := Option.bind_eq_some_iff.mp H
            obtain ⟨⟨t132, t133⟩, A60, H⟩ := H
            replace H : (if t133 = true then (if x5_1 = true then (nums_Parse.l0 k1 a0 x4_1 x5_1 (a0.size : Int) (wrap64 (x11_1 + 1))) else (if x4_1 > (wrap64 (Int.tdiv (wrap64 (4611686018427387903 - t132)) 10)) then (nums_Parse.l0 k1 a0 x4_1 true (a0.size : Int) (wrap64 (x11_1 + 1))) else (nums_Parse.l0 k1 a0 (wrap64 ((wrap64 (10 * x4_1)) + t132)) x5_1 (a0.size : Int) (wrap64 (x11_1 + 1))))) else (some (0, 3))) = some (r1, r2) := H
            have A6 := AsZ.mk A60
            clear A60
            by_cases c7 : t133 = true
            · subst c7
              have H1 : (if x5_1 = true then (nums_Parse.l0 k1 a0 x4_1 x5_1 (a0.size : Int) (wrap64 (x11_1 + 1))) else (if x4_1 > (wrap64 (Int.tdiv (wrap64 (4611686018427387903 - t132)) 10)) then (nums_Parse.l0 k1 a0 x4_1 true (a0.size : Int) (wrap64 (x11_1 + 1))) else (nums_Parse.l0 k1 a0 (wrap64 ((wrap64 (10 * x4_1)) + t132)) x5_1 (a0.size : Int) (wrap64 (x11_1 + 1))))) = some (r1, r2) := by rw [if_pos rfl] at H; exact H
              clear H
              have H := H1
              clear H1
              by_cases c8 : x5_1 = true
              · subst c8
                have H1 : (nums_Parse.l0 k1 a0 x4_1 true (a0.size : Int) (wrap64 (x11_1 + 1))) = some (r1, r2) := by rw [if_pos rfl] at H; exact H
                clear H
                have H := H1
                clear H1
                have H' := AsZ.mk H
                clear H
                have p5 : 0 ≤ (x11_1 : Int) := of_decide_eq_true (by first | (with_reducible assumption) | assumption)
                have q5 : x11_1 < (a0.size : Int) := of_decide_eq_true (by first | (with_reducible assumption) | assumption)
                have hx5 := bt_at a0 x11_1
                replace p5 := eq_true p5
                replace q5 := eq_true q5
                go_wp2_with (first | ((with_reducible refine gCa (f := 65) rfl ?_); refine gLl (some 18) rfl rfl Try.func65 (by kernel_rfl) rfl #[.int .u8 (bt a0 x11_1)] rfl (by (try simp only [lsD, lsE, lsF]); first | done | rfl | (simp only [lsG, lsH]; rfl)) ?_; (with_reducible refine (nums_digit.calls (bt a0 x11_1) t132 true _ A6.out).mono ?_); rintro e w' ⟨rfl, ⟨nd, rfl⟩⟩; refine ⟨_, rfl, ?_⟩))
                try (with_reducible apply wp_scope_straight; go_wp2_with (first | ((with_reducible refine gCa (f := 65) rfl ?_); refine gLl (some 18) rfl rfl Try.func65 (by kernel_rfl) rfl #[.int .u8 (bt a0 x11_1)] rfl (by (try simp only [lsD, lsE, lsF]); first | done | rfl | (simp only [lsG, lsH]; rfl)) ?_; (with_reducible refine (nums_digit.calls (bt a0 x11_1) t132 true _ A6.out).mono ?_); rintro e w' ⟨rfl, ⟨nd, rfl⟩⟩; refine ⟨_, rfl, ?_⟩)))
                try (with_reducible apply wp_label; go_wp2_with (first | ((with_reducible refine gCa (f := 65) rfl ?_); refine gLl (some 18) rfl rfl Try.func65 (by kernel_rfl) rfl #[.int .u8 (bt a0 x11_1)] rfl (by (try simp only [lsD, lsE, lsF]); first | done | rfl | (simp only [lsG, lsH]; rfl)) ?_; (with_reducible refine (nums_digit.calls (bt a0 x11_1) t132 true _ A6.out).mono ?_); rintro e w' ⟨rfl, ⟨nd, rfl⟩⟩; refine ⟨_, rfl, ?_⟩)))
                go_roundg k1
                case measure => have := HK1.out; omega
                case rel => exact ⟨(x4_1), (true), (wrap64 (x11_1 + 1)), (by first | rfl | (simp; done) | (simp [*]; done)), (by first | rfl | (simp; done) | (simp [*]; done)), (by first | rfl | (simp; done) | (simp [*]; done)), H', ⟨by have := HK1.out; omega⟩, by repeat (first | exact Drawn0.refl _ | apply Drawn0.step)⟩
              · replace c8 := Bool.eq_false_iff.mpr c8
                subst c8
                have H1 : (if x4_1 > (wrap64 (Int.tdiv (wrap64 (4611686018427387903 - t132)) 10)) then (nums_Parse.l0 k1 a0 x4_1 true (a0.size : Int) (wrap64 (x11_1 + 1))) else (nums_Parse.l0 k1 a0 (wrap64 ((wrap64 (10 * x4_1)) + t132)) false (a0.size : Int) (wrap64 (x11_1 + 1)))) = some (r1, r2) := by rw [if_neg (show ¬ (false = true) by decide)] at H; exact H
                clear H
                have H := H1
                clear H1
                by_cases c9 : x4_1 > (wrap64 (Int.tdiv (wrap64 (4611686018427387903 - t132)) 10))
                · rw [if_pos c9] at H
                  have c9b0 : decide ((wrap64 (Int.tdiv (wrap64 (4611686018427387903 - t132)) 10)) < x4_1) = true := decide_eq_true c9
                  clear c9
                  have H' := AsZ.mk H
                  clear H
                  have p5 : 0 ≤ (x11_1 : Int) := of_decide_eq_true (by first | (with_reducible assumption) | assumption)
                  have q5 : x11_1 < (a0.size : Int) := of_decide_eq_true (by first | (with_reducible assumption) | assumption)
                  have hx5 := bt_at a0 x11_1
                  replace p5 := eq_true p5
                  replace q5 := eq_true q5
                  go_wp2_with (first | ((with_reducible refine gCa (f := 65) rfl ?_); refine gLl (some 18) rfl rfl Try.func65 (by kernel_rfl) rfl #[.int .u8 (bt a0 x11_1)] rfl (by (try simp only [lsD, lsE, lsF]); first | done | rfl | (simp only [lsG, lsH]; rfl)) ?_; (with_reducible refine (nums_digit.calls (bt a0 x11_1) t132 true _ A6.out).mono ?_); rintro e w' ⟨rfl, ⟨nd, rfl⟩⟩; refine ⟨_, rfl, ?_⟩))
                  try (with_reducible apply wp_scope_straight; go_wp2_with (first | ((with_reducible refine gCa (f := 65) rfl ?_); refine gLl (some 18) rfl rfl Try.func65 (by kernel_rfl) rfl #[.int .u8 (bt a0 x11_1)] rfl (by (try simp only [lsD, lsE, lsF]); first | done | rfl | (simp only [lsG, lsH]; rfl)) ?_; (with_reducible refine (nums_digit.calls (bt a0 x11_1) t132 true _ A6.out).mono ?_); rintro e w' ⟨rfl, ⟨nd, rfl⟩⟩; refine ⟨_, rfl, ?_⟩)))
                  try (with_reducible apply wp_label; go_wp2_with (first | ((with_reducible refine gCa (f := 65) rfl ?_); refine gLl (some 18) rfl rfl Try.func65 (by kernel_rfl) rfl #[.int .u8 (bt a0 x11_1)] rfl (by (try simp only [lsD, lsE, lsF]); first | done | rfl | (simp only [lsG, lsH]; rfl)) ?_; (with_reducible refine (nums_digit.calls (bt a0 x11_1) t132 true _ A6.out).mono ?_); rintro e w' ⟨rfl, ⟨nd, rfl⟩⟩; refine ⟨_, rfl, ?_⟩)))
                  go_roundg k1
                  case measure => have := HK1.out; omega
                  case rel => exact ⟨(x4_1), (true), (wrap64 (x11_1 + 1)), (by first | rfl | (simp; done) | (simp [*]; done)), (by first | rfl | (simp; done) | (simp [*]; done)), (by first | rfl | (simp; done) | (simp [*]; done)), H', ⟨by have := HK1.out; omega⟩, by repeat (first | exact Drawn0.refl _ | apply Drawn0.step)⟩
                · rw [if_neg c9] at H
                  have c9b0 : decide ((wrap64 (Int.tdiv (wrap64 (4611686018427387903 - t132)) 10)) < x4_1) = false := decide_eq_false c9
                  clear c9
                  have H' := AsZ.mk H
                  clear H
                  have p5 : 0 ≤ (x11_1 : Int) := of_decide_eq_true (by first | (with_reducible assumption) | assumption)
                  have q5 : x11_1 < (a0.size : Int) := of_decide_eq_true (by first | (with_reducible assumption) | assumption)
                  have hx5 := bt_at a0 x11_1
                  replace p5 := eq_true p5
                  replace q5 := eq_true q5
                  go_wp2_with (first | ((with_reducible refine gCa (f := 65) rfl ?_); refine gLl (some 18) rfl rfl Try.func65 (by kernel_rfl) rfl #[.int .u8 (bt a0 x11_1)] rfl (by (try simp only [lsD, lsE, lsF]); first | done | rfl | (simp only [lsG, lsH]; rfl)) ?_; (with_reducible refine (nums_digit.calls (bt a0 x11_1) t132 true _ A6.out).mono ?_); rintro e w' ⟨rfl, ⟨nd, rfl⟩⟩; refine ⟨_, rfl, ?_⟩))
                  try (with_reducible apply wp_scope_straight; go_wp2_with (first | ((with_reducible refine gCa (f := 65) rfl ?_); refine gLl (some 18) rfl rfl Try.func65 (by kernel_rfl) rfl #[.int .u8 (bt a0 x11_1)] rfl (by (try simp only [lsD, lsE, lsF]); first | done | rfl | (simp only [lsG, lsH]; rfl)) ?_; (with_reducible refine (nums_digit.calls (bt a0 x11_1) t132 true _ A6.out).mono ?_); rintro e w' ⟨rfl, ⟨nd, rfl⟩⟩; refine ⟨_, rfl, ?_⟩)))
                  try (with_reducible apply wp_label; go_wp2_with (first | ((with_reducible refine gCa (f := 65) rfl ?_); refine gLl (some 18) rfl rfl Try.func65 (by kernel_rfl) rfl #[.int .u8 (bt a0 x11_1)] rfl (by (try simp only [lsD, lsE, lsF]); first | done | rfl | (simp only [lsG, lsH]; rfl)) ?_; (with_reducible refine (nums_digit.calls (bt a0 x11_1) t132 true _ A6.out).mono ?_); rintro e w' ⟨rfl, ⟨nd, rfl⟩⟩; refine ⟨_, rfl, ?_⟩)))
                  go_roundg k1
                  case measure => have := HK1.out; omega
                  case rel => exact ⟨(wrap64 ((wrap64 (10 * x4_1)) + t132)), (false), (wrap64 (x11_1 + 1)), (by first | rfl | (simp; done) | (simp [*]; done)), (by first | rfl | (simp; done) | (simp [*]; done)), (by first | rfl | (simp; done) | (simp [*]; done)), H', ⟨by have := HK1.out; omega⟩, by repeat (first | exact Drawn0.refl _ | apply Drawn0.step)⟩
            · replace c7 := Bool.eq_false_iff.mpr c7
              subst c7
              have H1 : (some (0, 3)) = some (r1, r2) := by rw [if_neg (show ¬ (false = true) by decide)] at H; exact H
              clear H
              have H := H1
              clear H1
              simp only [Option.some.injEq, Prod.mk.injEq] at H
              obtain ⟨rfl, rfl⟩ := H
              have p5 : 0 ≤ (x11_1 : Int) := of_decide_eq_true (by first | (with_reducible assumption) | assumption)
              have q5 : x11_1 < (a0.size : Int) := of_decide_eq_true (by first | (with_reducible assumption) | assumption)
              have hx5 := bt_at a0 x11_1
              replace p5 := eq_true p5
              replace q5 := eq_true q5
              go_wp2_with (first | ((with_reducible refine gCa (f := 65) rfl ?_); refine gLl (some 18) rfl rfl Try.func65 (by kernel_rfl) rfl #[.int .u8 (bt a0 x11_1)] rfl (by (try simp only [lsD, lsE, lsF]); first | done | rfl | (simp only [lsG, lsH]; rfl)) ?_; (with_reducible refine (nums_digit.calls (bt a0 x11_1) t132 false _ A6.out).mono ?_); rintro e w' ⟨rfl, ⟨nd, rfl⟩⟩; refine ⟨_, rfl, ?_⟩))
              try (with_reducible apply wp_scope_straight; go_wp2_with (first | ((with_reducible refine gCa (f := 65) rfl ?_); refine gLl (some 18) rfl rfl Try.func65 (by kernel_rfl) rfl #[.int .u8 (bt a0 x11_1)] rfl (by (try simp only [lsD, lsE, lsF]); first | done | rfl | (simp only [lsG, lsH]; rfl)) ?_; (with_reducible refine (nums_digit.calls (bt a0 x11_1) t132 false _ A6.out).mono ?_); rintro e w' ⟨rfl, ⟨nd, rfl⟩⟩; refine ⟨_, rfl, ?_⟩)))
              try (with_reducible apply wp_label; go_wp2_with (first | ((with_reducible refine gCa (f := 65) rfl ?_); refine gLl (some 18) rfl rfl Try.func65 (by kernel_rfl) rfl #[.int .u8 (bt a0 x11_1)] rfl (by (try simp only [lsD, lsE, lsF]); first | done | rfl | (simp only [lsG, lsH]; rfl)) ?_; (with_reducible refine (nums_digit.calls (bt a0 x11_1) t132 false _ A6.out).mono ?_); rintro e w' ⟨rfl, ⟨nd, rfl⟩⟩; refine ⟨_, rfl, ?_⟩)))
              try rw [Exit.noGoto_ret]
              go_ret2
              exact ⟨by first | rfl | (simp; done) | (simp [*]; done) | exact nEm _ | exact eEm _, by repeat (first | exact Drawn0.refl _ | apply Drawn0.step)⟩
          · rw [if_neg c4] at H
            exact absurd H (by simp)
        · rw [if_neg c3] at H
          exact absurd H (by simp)
      · rw [if_neg c2] at H
        have c2b0 : decide (x11_1 < (a0.size : Int)) = false := decide_eq_false c2
        clear c2
        by_cases c10 : a0.toList = ([] : List UInt8)
        · rw [if_pos c10] at H
          have c10b0 : (a0.toList == ([] : List UInt8)) = true := beq_iff_eq.mpr c10
          have c10b1 : (a0.toList != ([] : List UInt8)) = false := bne_eq_false_iff_eq.mpr c10
          clear c10
          simp only [Option.some.injEq, Prod.mk.injEq] at H
          obtain ⟨rfl, rfl⟩ := H
          go_wp2
          try (with_reducible apply wp_scope_straight; go_wp2)
          try (with_reducible apply wp_label; go_wp2)
          try rw [Exit.noGoto_ret]
          go_ret2
          exact ⟨by first | rfl | (simp; done) | (simp [*]; done) | exact nEm _ | exact eEm _, by repeat (first | exact Drawn0.refl _ | apply Drawn0.step)⟩
        · rw [if_neg c10] at H
          have c10b0 : (a0.toList == ([] : List UInt8)) = false := beq_eq_false_iff_ne.mpr c10
          have c10b1 : (a0.toList != ([] : List UInt8)) = true := bne_iff_ne.mpr c10
          by_cases c11 : x5_1 = true
          · subst c11
            have H1 : (some (0, 9)) = some (r1, r2) := by rw [if_pos rfl] at H; exact H
            clear H
            have H := H1
            clear H1
            simp only [Option.some.injEq, Prod.mk.injEq] at H
            obtain ⟨rfl, rfl⟩ := H
            go_wp2
            try (with_reducible apply wp_scope_straight; go_wp2)
            try (with_reducible apply wp_label; go_wp2)
            try rw [Exit.noGoto_ret]
            go_ret2
            exact ⟨by first | rfl | (simp; done) | (simp [*]; done) | exact nEm _ | exact eEm _, by repeat (first | exact Drawn0.refl _ | apply Drawn0.step)⟩
          · replace c11 := Bool.eq_false_iff.mpr c11
            subst c11
            have H1 : (some (x4_1, 0)) = some (r1, r2) := by rw [if_neg (show ¬ (false = true) by decide)] at H; exact H
            clear H
            have H := H1
            clear H1
            simp only [Option.some.injEq, Prod.mk.injEq] at H
            obtain ⟨rfl, rfl⟩ := H
            go_wp2
            try (with_reducible apply wp_scope_straight; go_wp2)
            try (with_reducible apply wp_label; go_wp2)
            try rw [Exit.noGoto_ret]
            go_ret2
            exact ⟨by first | rfl | (simp; done) | (simp [*]; done) | exact nEm _ | exact eEm _, by repeat (first | exact Drawn0.refl _ | apply Drawn0.step)⟩
/-- A state of type 91 at block g of W; what its slices lead to came in by w0. -/
def IsS91 (w0 W : World) (g : Nat) (f0 : Int) : Prop := W.heap[g]? = some (.cells #[.int .i64 f0] 91 (0, 0)) ∧ w0.heap.size ≤ g
theorem IsS91.grown {w0 W : World} {g : Nat} {f0 : Int} {W1 : World} {row : Option Nat} (h : IsS91 w0 W g f0) (hw : W.grownBy W1 row) (hne : some g ≠ row) : IsS91 w0 W1 g f0 := by
  obtain ⟨hb, hg⟩ := h
  exact ⟨blk_grown hb hw hne, hg⟩
theorem IsS91.kept {w0 W : World} {g : Nat} {f0 : Int} {W1 : World} {S : Nat → Prop} (h : IsS91 w0 W g f0) (hk : Kept W W1 S) (hne : ¬ S g) : IsS91 w0 W1 g f0 := by
  obtain ⟨hb, hg⟩ := h
  exact ⟨blk_kept hb hk hne, hg⟩
theorem IsS91.below {w0 W : World} {g : Nat} {f0 : Int} {W1 : World} (h : IsS91 w0 W g f0) (hw : Below W.heap.size W W1) : IsS91 w0 W1 g f0 := h.grown (grown_of_below hw none) (by simp)
theorem IsS91.alloc {w0 W : World} {g : Nat} {f0 : Int} (h : IsS91 w0 W g f0) (o : Obj) : IsS91 w0 (W.alloc o) g f0 := h.below (aBl (Below.refl _ _) o)
theorem IsS91.drewN {w0 W : World} {g : Nat} {f0 : Int} (h : IsS91 w0 W g f0) (m : Nat) : IsS91 w0 (W.drewN m) g f0 := h
theorem IsS91.drew {w0 W : World} {g : Nat} {f0 : Int} (h : IsS91 w0 W g f0) : IsS91 w0 W.drew g f0 := h
theorem IsS91.apart {w0 W : World} {g : Nat} {f0 : Int} {α : Type} {d : Kd α} {e : Nat} {base : Nat} {ok : Nat → Prop} {v : Value} {xs : List α} (h : IsS91 w0 W g f0) (ho : d.R e W base ok v xs) (ht : ∀ q, q ∈ e :: d.E → q ≠ 91) : d.R e W base (fun k => ok k ∧ k ≠ g) v xs := by
  obtain ⟨hb, hg⟩ := h
  exact Kd.R_types ho hb ht
theorem IsS91.own_ne {w0 W : World} {g : Nat} {f0 : Int} {α : Type} {d : Kd α} {e : Nat} {base : Nat} {ok : Nat → Prop} {v : Value} {xs : List α} (h : IsS91 w0 W g f0) (ho : d.R e W base ok v xs) (ht : e ≠ 91) : some g ≠ v.ownBlock := by
  obtain ⟨hb, hg⟩ := h
  exact Kd.R_ne ho hb ht
theorem IsS91.lt {w0 W : World} {g : Nat} {f0 : Int} (h : IsS91 w0 W g f0) : g < W.heap.size := by
  obtain ⟨hb, hg⟩ := h
  exact bLt hb
theorem IsS91.ge {w0 W : World} {g : Nat} {f0 : Int} (h : IsS91 w0 W g f0) : w0.heap.size ≤ g := by
  obtain ⟨hb, hg⟩ := h
  exact hg
theorem cellS91_0 {W : World} {g : Nat} {f0 : Int} (h : W.heap[g]? = some (.cells #[.int .i64 f0] 91 (0, 0))) : W.cell? ⟨g, 0, none⟩ = some (.int .i64 f0) := (bCe h 0).trans rfl
theorem IsS91.set_0 {w0 W : World} {g : Nat} {f0 : Int} (h : IsS91 w0 W g f0) (x : Int) : IsS91 w0 (W.setCell ⟨g, 0, none⟩ (.int .i64 x)) g x := by
  obtain ⟨hb, hg⟩ := h
  exact ⟨by simpa using blk_set hb 0 (.int .i64 x), hg⟩
def crNum.f (k : Nat) (s0_0 : Int) (a1 : ByteArray) : Option (Int × Int) := (nums_Parse.f k a1).bind fun bt134 => (if bt134.2 = 3 then (some (bt134.1, bt134.2)) else (if s0_0 = 0 then (some (bt134.1, bt134.2)) else (some (bt134.1, s0_0))))
theorem crNum.mono : ∀ a0 a1 k, LeO (crNum.f k a0 a1) (crNum.f (k + 1) a0 a1) := by
  intro a0 a1 k
  unfold crNum.f
  repeat' first
      | (with_reducible exact nums_Parse.mono _ _)
      | (with_reducible exact LeO.refl _)
      | (with_reducible exact LeO.none _)
      | (with_reducible refine LeO.ite ?_ ?_)
      | (with_reducible refine LeO.bind ?_ (fun _ => ?_))
      | exact nums_Parse.mono _ _
      | exact LeO.none _
      | refine LeO.ite ?_ ?_
      | refine LeO.bind ?_ (fun _ => ?_)
set_option maxHeartbeats 8000000 in
set_option maxRecDepth 100000 in
theorem crNum.calls (k : Nat) (g : Nat) (s0_0 : Int) (a1 : ByteArray) (r1 : Int) (r2 : Int) (w0 w : World) (hI : IsS91 w0 w g s0_0) (hB : Below w0.heap.size w0 w) (h : crNum.f k s0_0 a1 = some (r1, r2)) :
    Calls Try.prog 60 #[.pointer (some ⟨g, 0, none⟩), .string a1] w fun e w' => e = .returned (.int .i64 r1) ∧ IsS91 w0 w' g r2 ∧ Below w0.heap.size w0 w' ∧ KeepBut w w' g none := by
  have HI0 := AsZ.mk hI
  have HK := AsZ.mk (KeepBut.refl w g none)
  have HL := AsZ.mk hB.size
  clear hI
  have HW0 := AsZ.mk hB.size
  have HB := AsZ.mk hB
  clear hB
  have H : ((nums_Parse.f k a1).bind fun bt134 => (if bt134.2 = 3 then (some (bt134.1, bt134.2)) else (if s0_0 = 0 then (some (bt134.1, bt134.2)) else (some (bt134.1, s0_0))))) = some (r1, r2) := h
  clear h
  replace H := Option.bind_eq_some_iff.mp H
  obtain ⟨⟨t134, t135⟩, A30, H⟩ := H
  replace H : (if t135 = 3 then (some (t134, t135)) else (if s0_0 = 0 then (some (t134, t135)) else (some (t134, s0_0)))) = some (r1, r2) := H
  have A3 := AsZ.mk A30
  clear A30
  by_cases c4 : t135 = 3
  · rw [if_pos c4] at H
    have c4b0 : (t135 == 3) = true := beq_iff_eq.mpr c4
    have c4b1 : (t135 != 3) = false := bne_eq_false_iff_eq.mpr c4
    clear c4
    simp only [Option.some.injEq, Prod.mk.injEq] at H
    obtain ⟨rfl, rfl⟩ := H
    go_enter Try.func60, Try.ntmps60
    go_wp2_with (first | ((with_reducible refine gCa (f := 63) rfl ?_); refine gLl (some 9) rfl rfl Try.func63 (by kernel_rfl) rfl #[.string a1] rfl (by (try simp only [lsD, lsE, lsF]); first | done | rfl | (simp only [lsG, lsH]; rfl)) ?_; (with_reducible refine (nums_Parse.calls k a1 t134 t135 _ A3.out).mono ?_); rintro e w' ⟨rfl, ⟨nd, rfl⟩⟩; refine ⟨_, rfl, ?_⟩; (try (rw [drewN_self w]; generalize hq_ : World.drewN w _ = wq_; have n0_ : AsZ (IsS91 w0 wq_ g s0_0) := ⟨by rw [← hq_]; exact (by repeat (first | (with_reducible first | exact HI0.out | apply IsS91.alloc | apply IsS91.drewN | apply IsS91.drew | apply IsS91.set_0) | exact HI0.out))⟩; have n1_ : AsZ (KeepBut w wq_ g none) := ⟨by rw [← hq_]; exact (by repeat (first | (with_reducible first | exact HK.out | apply KeepBut.set_ | apply keep_drewN | apply keep_drew | apply keep_alloc) | exact HK.out))⟩; have n2_ : AsZ (Below w0.heap.size w0 wq_) := ⟨by rw [← hq_]; exact (by repeat (first | (with_reducible first | exact HB.out | apply aBl | apply pBd | apply dBl | refine sBl ?_ (IsS91.ge HI0.out)) | exact HB.out))⟩; clear HI0 HK HB hq_; have HI0 := n0_; have HK := n1_; have HB := n2_; clear n0_ n1_ n2_)); obtain ⟨HGz5, hgz5⟩ := HI0.out; have hcz5_0 := cellS91_0 HGz5; have hfz5_0 := bFz HGz5 0; clear HGz5 hgz5))
    go_ret
    exact ⟨by first | rfl | exact nEm _ | exact eEm _ | (simp [eWn, eWs] <;> rfl) | (simp [*, eWn, eWs] <;> rfl), by repeat (first | (with_reducible first | exact HI0.out | apply IsS91.alloc | apply IsS91.drewN | apply IsS91.drew | apply IsS91.set_0) | exact HI0.out), by repeat (first | (with_reducible first | exact HB.out | apply aBl | apply pBd | apply dBl | refine sBl ?_ (IsS91.ge HI0.out)) | exact HB.out), by repeat (first | (with_reducible first | exact HK.out | apply KeepBut.set_ | apply keep_drewN | apply keep_drew | apply keep_alloc) | exact HK.out)⟩
  · rw [if_neg c4] at H
    have c4b0 : (t135 == 3) = false := beq_eq_false_iff_ne.mpr c4
    have c4b1 : (t135 != 3) = true := bne_iff_ne.mpr c4
    by_cases c6 : s0_0 = 0
    · rw [if_pos c6] at H
      have c6b0 : (s0_0 == 0) = true := beq_iff_eq.mpr c6
      have c6b1 : (s0_0 != 0) = false := bne_eq_false_iff_eq.mpr c6
      clear c6
      simp only [Option.some.injEq, Prod.mk.injEq] at H
      obtain ⟨rfl, rfl⟩ := H
      go_enter Try.func60, Try.ntmps60
      go_wp2_with (first | ((with_reducible refine gCa (f := 63) rfl ?_); refine gLl (some 9) rfl rfl Try.func63 (by kernel_rfl) rfl #[.string a1] rfl (by (try simp only [lsD, lsE, lsF]); first | done | rfl | (simp only [lsG, lsH]; rfl)) ?_; (with_reducible refine (nums_Parse.calls k a1 t134 t135 _ A3.out).mono ?_); rintro e w' ⟨rfl, ⟨nd, rfl⟩⟩; refine ⟨_, rfl, ?_⟩; (try (rw [drewN_self w]; generalize hq_ : World.drewN w _ = wq_; have n0_ : AsZ (IsS91 w0 wq_ g s0_0) := ⟨by rw [← hq_]; exact (by repeat (first | (with_reducible first | exact HI0.out | apply IsS91.alloc | apply IsS91.drewN | apply IsS91.drew | apply IsS91.set_0) | exact HI0.out))⟩; have n1_ : AsZ (KeepBut w wq_ g none) := ⟨by rw [← hq_]; exact (by repeat (first | (with_reducible first | exact HK.out | apply KeepBut.set_ | apply keep_drewN | apply keep_drew | apply keep_alloc) | exact HK.out))⟩; have n2_ : AsZ (Below w0.heap.size w0 wq_) := ⟨by rw [← hq_]; exact (by repeat (first | (with_reducible first | exact HB.out | apply aBl | apply pBd | apply dBl | refine sBl ?_ (IsS91.ge HI0.out)) | exact HB.out))⟩; clear HI0 HK HB hq_; have HI0 := n0_; have HK := n1_; have HB := n2_; clear n0_ n1_ n2_)); obtain ⟨HGz7, hgz7⟩ := HI0.out; have hcz7_0 := cellS91_0 HGz7; have hfz7_0 := bFz HGz7 0; clear HGz7 hgz7))
      go_ret
      exact ⟨by first | rfl | exact nEm _ | exact eEm _ | (simp [eWn, eWs] <;> rfl) | (simp [*, eWn, eWs] <;> rfl), by repeat (first | (with_reducible first | exact HI0.out | apply IsS91.alloc | apply IsS91.drewN | apply IsS91.drew | apply IsS91.set_0) | exact HI0.out), by repeat (first | (with_reducible first | exact HB.out | apply aBl | apply pBd | apply dBl | refine sBl ?_ (IsS91.ge HI0.out)) | exact HB.out), by repeat (first | (with_reducible first | exact HK.out | apply KeepBut.set_ | apply keep_drewN | apply keep_drew | apply keep_alloc) | exact HK.out)⟩
    · rw [if_neg c6] at H
      have c6b0 : (s0_0 == 0) = false := beq_eq_false_iff_ne.mpr c6
      have c6b1 : (s0_0 != 0) = true := bne_iff_ne.mpr c6
      simp only [Option.some.injEq, Prod.mk.injEq] at H
      obtain ⟨rfl, rfl⟩ := H
      go_enter Try.func60, Try.ntmps60
      go_wp2_with (first | ((with_reducible refine gCa (f := 63) rfl ?_); refine gLl (some 9) rfl rfl Try.func63 (by kernel_rfl) rfl #[.string a1] rfl (by (try simp only [lsD, lsE, lsF]); first | done | rfl | (simp only [lsG, lsH]; rfl)) ?_; (with_reducible refine (nums_Parse.calls k a1 t134 t135 _ A3.out).mono ?_); rintro e w' ⟨rfl, ⟨nd, rfl⟩⟩; refine ⟨_, rfl, ?_⟩; obtain ⟨HGz8, hgz8⟩ := HI0.out; have hcz8_0 := cellS91_0 HGz8; have hfz8_0 := bFz HGz8 0; clear HGz8 hgz8))
      go_ret
      exact ⟨by first | rfl | exact nEm _ | exact eEm _ | (simp [eWn, eWs] <;> rfl) | (simp [*, eWn, eWs] <;> rfl), by repeat (first | (with_reducible first | exact HI0.out | apply IsS91.alloc | apply IsS91.drewN | apply IsS91.drew | apply IsS91.set_0) | exact HI0.out), by repeat (first | (with_reducible first | exact HB.out | apply aBl | apply pBd | apply dBl | refine sBl ?_ (IsS91.ge HI0.out)) | exact HB.out), by repeat (first | (with_reducible first | exact HK.out | apply KeepBut.set_ | apply keep_drewN | apply keep_drew | apply keep_alloc) | exact HK.out)⟩
end Go.Proofs.Ytpphnjmppkbpbaa.PAll
namespace Go.Proofs.Ytpphnjmppkbpbaa.PAll
open Go.RowKit Go.Proofs.Ytpphnjmppkbpbaa.Xw Go.Proofs.YtpphnjmppkbpbaaW.PrintWords Go.Proofs.YtpphnjmppkbpbaaW.PrintLast Go.Proofs.YtpphnjmppkbpbaaW.PrintMore
attribute [local go_sem] max2_int min2_int max_two min_two max_three min_three max_four min_four
set_option linter.unusedVariables false
set_option linter.unusedSimpArgs false
theorem crange_far4 {w : World} {h g t : Nat} {cs : Array Value} {a b c d : Value} (hb : w.heap[h]? = some (.cells cs t (0, 0))) (ne : h ≠ g) : ((((w.setCell ⟨g, 0, none⟩ a).setCell ⟨g, 1, none⟩ b).setCell ⟨g, 2, none⟩ c).setCell ⟨g, 3, none⟩ d).heap[h]? = some (.cells cs t (0, 0)) := bFr (bFr (bFr (bFr hb ne _) ne _) ne _) ne _
theorem crange_put4 {w : World} {g t : Nat} {a b c d : Value} (p q r s : Value) (hb : w.heap[g]? = some (.cells #[p, q, r, s] t (0, 0))) : ((((w.setCell ⟨g, 0, none⟩ a).setCell ⟨g, 1, none⟩ b).setCell ⟨g, 2, none⟩ c).setCell ⟨g, 3, none⟩ d).heap[g]? = some (.cells #[a, b, c, d] t (0, 0)) := bPu (bPu (bPu (bPu hb 0 a rfl) 1 b rfl) 2 c rfl) 3 d rfl
def crange_Parse.e (k : Nat) (bad : Int) (kn : Bool) (f t tot : Int) : Option (Bool × Int × Int × Int × Int) := if bad = 0 then ((crange_Right.f k kn f t tot).bind fun r => (if r = true then (some (kn, f, t, tot, 0)) else (some (false, 0, 0, 0, 3)))) else (some (false, 0, 0, 0, bad))
def crange_Parse.t (k : Nat) (x : ByteArray) (bad : Int) (kn : Bool) (f t : Int) : Option (Bool × Int × Int × Int × Int) := if x.toList = ([42] : List UInt8) then (crange_Parse.e k bad kn f t (-1)) else ((crNum.f k bad x).bind fun n => (crange_Parse.e k n.2 kn f t n.1))
def crange_Parse.f (k : Nat) (a0 : ByteArray) : Option (Bool × Int × Int × Int × Int) := (text_Cut.f a0 32).bind fun c => ((text_Cut.f c.2.1 47).bind fun d => (if c.2.2 = true then (if d.2.2 = true then ((text_Fold.f c.1 (⟨#[98, 121, 116, 101, 115]⟩ : ByteArray)).bind fun fo => (if fo = true then (if d.1.toList = ([42] : List UInt8) then (crange_Parse.t k d.2.1 0 false 0 0) else ((text_Cut.f d.1 45).bind fun g => (if g.2.2 = true then ((crNum.f k 0 g.1).bind fun n => ((crNum.f k n.2 g.2.1).bind fun m => (crange_Parse.t k d.2.1 m.2 true n.1 (wrap64 (m.1 + 1))))) else (some (false, 0, 0, 0, 3))))) else (some (false, 0, 0, 0, 3)))) else (some (false, 0, 0, 0, 3))) else (some (false, 0, 0, 0, 3))))
theorem crange_Parse.e_mono (k : Nat) (bad : Int) (kn : Bool) (f t tot : Int) : LeO (crange_Parse.e k bad kn f t tot) (crange_Parse.e (k + 1) bad kn f t tot) := by
  unfold crange_Parse.e
  exact LeO.ite (LeO.bind (crange_Right.mono _ _ _ _ _) (fun _ => LeO.refl _)) (LeO.refl _)
theorem crange_Parse.t_mono (k : Nat) (x : ByteArray) (bad : Int) (kn : Bool) (f t : Int) : LeO (crange_Parse.t k x bad kn f t) (crange_Parse.t (k + 1) x bad kn f t) := by
  unfold crange_Parse.t
  exact LeO.ite (crange_Parse.e_mono _ _ _ _ _ _) (LeO.bind (crNum.mono _ _ _) (fun _ => crange_Parse.e_mono _ _ _ _ _ _))
theorem crange_Parse.mono : ∀ a0 k, LeO (crange_Parse.f k a0) (crange_Parse.f (k + 1) a0) := by
  intro a0 k
  unfold crange_Parse.f
  exact LeO.bind (LeO.refl _) fun _ => LeO.bind (LeO.refl _) fun _ => LeO.ite (LeO.ite (LeO.bind (LeO.refl _) fun _ => LeO.ite (LeO.ite (crange_Parse.t_mono _ _ _ _ _ _) (LeO.bind (LeO.refl _) fun _ => LeO.ite (LeO.bind (crNum.mono _ _ _) fun _ => LeO.bind (crNum.mono _ _ _) fun _ => crange_Parse.t_mono _ _ _ _ _ _) (LeO.refl _))) (LeO.refl _)) (LeO.refl _)) (LeO.refl _)
set_option maxHeartbeats 16000000 in
set_option maxRecDepth 100000 in
theorem crange_Parse.calls (k : Nat) (a0 : ByteArray) (r1 : Bool) (r2 r3 r4 r5 : Int) (w : World) (h : crange_Parse.f k a0 = some (r1, r2, r3, r4, r5)) :
    Calls Try.prog 55 #[.string a0] w fun e w' => e = .returned (.tuple #[.agg #[.bool r1, .int .i64 r2, .int .i64 r3, .int .i64 r4], .int .i64 r5]) ∧ Below w.heap.size w w' := by
  have hu59 := Try.underlying59
  have hu91 := Try.underlying91
  have hu30 := Try.underlying30
  have HB := AsZ.mk (Below.refl w.heap.size w)
  replace h := Option.bind_eq_some_iff.mp h
  obtain ⟨⟨c1, c2, c3⟩, h1, h⟩ := h
  replace h := Option.bind_eq_some_iff.mp h
  obtain ⟨⟨d1, d2, d3⟩, h2, h⟩ := h
  dsimp only at h1 h2 h
  cases c3 with
  | false =>
    rw [if_neg (by decide)] at h
    simp only [Option.some.injEq, Prod.mk.injEq] at h
    obtain ⟨rfl, rfl, rfl, rfl, rfl⟩ := h
    go_enter Try.func55, Try.ntmps55
    go_wp2_with (first | ((with_reducible refine gDs (N := 2) rfl ?_); refine bEv ?hg (N := 2) ?hd (cs := #[.bool false, .int .i64 0, .int .i64 0, .int .i64 0]) (t := 59) ?hr ?_; (case hd => rfl); (case hg => rfl); (case hr => first | (go_simp; done) | (go_simp; rfl)); intro gb2 hg w3 hbox hb; have n4_ := AsZ.mk ((by rw [hg]; exact (zBl (by repeat (first | (with_reducible first | exact HB.out | apply aBl | apply pBd | apply dBl) | exact HB.out)))) : w.heap.size ≤ gb2); have n1_ := AsZ.mk (tBl (by repeat (first | (with_reducible first | exact HB.out | apply aBl | apply pBd | apply dBl) | exact HB.out)) hb); clear HB; have HB := n1_; clear n1_; have BK2 := AsZ.mk (hbox); have GE2 := n4_; clear n4_; clear hb hbox hg; have hcz2_0_w3 : w3.cell? ⟨gb2, 0, none⟩ = some (.bool false) := (bCe BK2.out 0).trans rfl; have hfz2_0_w3 := bFz BK2.out 0; have hcz2_1_w3 : w3.cell? ⟨gb2, 1, none⟩ = some (.int .i64 0) := (bCe BK2.out 1).trans rfl; have hfz2_1_w3 := bFz BK2.out 1; have hcz2_2_w3 : w3.cell? ⟨gb2, 2, none⟩ = some (.int .i64 0) := (bCe BK2.out 2).trans rfl; have hfz2_2_w3 := bFz BK2.out 2; have hcz2_3_w3 : w3.cell? ⟨gb2, 3, none⟩ = some (.int .i64 0) := (bCe BK2.out 3).trans rfl; have hfz2_3_w3 := bFz BK2.out 3))
    refine (text_Cut.calls a0 32 c1 c2 false _ h1).mono ?_
    rintro e w' ⟨rfl, ⟨nd, rfl⟩⟩
    dsimp only
    go_wp2_with (fail)
    refine (text_Cut.calls c2 47 d1 d2 d3 _ h2).mono ?_
    rintro e w' ⟨rfl, ⟨nd, rfl⟩⟩
    dsimp only
    go_wp2_with (fail)
    refine bodyPost_ret (results_ct rfl _ _ gb2 59 #[.bool false, .int .i64 0, .int .i64 0, .int .i64 0] (0, 0) _ rfl (by (with_reducible repeat first | apply bDn | apply bDr | apply bAl); refine crange_put4 (.bool false) (.int .i64 0) (.int .i64 0) (.int .i64 0) ?_; (with_reducible repeat first | apply bDn | apply bDr | apply bAl); exact BK2.out) Try.underlying59 rfl (by kernel_rfl)) rfl ?_
    exact ⟨by first | rfl | (simp; done) | (simp [*]; done), by repeat (first | (with_reducible first | exact HB.out | apply aBl | apply pBd | apply dBl | refine sBl ?_ GE2.out) | exact HB.out)⟩
  | true =>
    rw [if_pos rfl] at h
    cases d3 with
    | false =>
      rw [if_neg (by decide)] at h
      simp only [Option.some.injEq, Prod.mk.injEq] at h
      obtain ⟨rfl, rfl, rfl, rfl, rfl⟩ := h
      go_enter Try.func55, Try.ntmps55
      go_wp2_with (first | ((with_reducible refine gDs (N := 2) rfl ?_); refine bEv ?hg (N := 2) ?hd (cs := #[.bool false, .int .i64 0, .int .i64 0, .int .i64 0]) (t := 59) ?hr ?_; (case hd => rfl); (case hg => rfl); (case hr => first | (go_simp; done) | (go_simp; rfl)); intro gb2 hg w3 hbox hb; have n4_ := AsZ.mk ((by rw [hg]; exact (zBl (by repeat (first | (with_reducible first | exact HB.out | apply aBl | apply pBd | apply dBl) | exact HB.out)))) : w.heap.size ≤ gb2); have n1_ := AsZ.mk (tBl (by repeat (first | (with_reducible first | exact HB.out | apply aBl | apply pBd | apply dBl) | exact HB.out)) hb); clear HB; have HB := n1_; clear n1_; have BK2 := AsZ.mk (hbox); have GE2 := n4_; clear n4_; clear hb hbox hg; have hcz2_0_w3 : w3.cell? ⟨gb2, 0, none⟩ = some (.bool false) := (bCe BK2.out 0).trans rfl; have hfz2_0_w3 := bFz BK2.out 0; have hcz2_1_w3 : w3.cell? ⟨gb2, 1, none⟩ = some (.int .i64 0) := (bCe BK2.out 1).trans rfl; have hfz2_1_w3 := bFz BK2.out 1; have hcz2_2_w3 : w3.cell? ⟨gb2, 2, none⟩ = some (.int .i64 0) := (bCe BK2.out 2).trans rfl; have hfz2_2_w3 := bFz BK2.out 2; have hcz2_3_w3 : w3.cell? ⟨gb2, 3, none⟩ = some (.int .i64 0) := (bCe BK2.out 3).trans rfl; have hfz2_3_w3 := bFz BK2.out 3))
      refine (text_Cut.calls a0 32 c1 c2 true _ h1).mono ?_
      rintro e w' ⟨rfl, ⟨nd, rfl⟩⟩
      dsimp only
      go_wp2_with (fail)
      refine (text_Cut.calls c2 47 d1 d2 false _ h2).mono ?_
      rintro e w' ⟨rfl, ⟨nd, rfl⟩⟩
      dsimp only
      go_wp2_with (fail)
      refine bodyPost_ret (results_ct rfl _ _ gb2 59 #[.bool false, .int .i64 0, .int .i64 0, .int .i64 0] (0, 0) _ rfl (by (with_reducible repeat first | apply bDn | apply bDr | apply bAl); refine crange_put4 (.bool false) (.int .i64 0) (.int .i64 0) (.int .i64 0) ?_; (with_reducible repeat first | apply bDn | apply bDr | apply bAl); exact BK2.out) Try.underlying59 rfl (by kernel_rfl)) rfl ?_
      exact ⟨by first | rfl | (simp; done) | (simp [*]; done), by repeat (first | (with_reducible first | exact HB.out | apply aBl | apply pBd | apply dBl | refine sBl ?_ GE2.out) | exact HB.out)⟩
    | true =>
      rw [if_pos rfl] at h
      replace h := Option.bind_eq_some_iff.mp h
      obtain ⟨fo, h3, h⟩ := h
      cases fo with
      | false =>
        rw [if_neg (by decide)] at h
        simp only [Option.some.injEq, Prod.mk.injEq] at h
        obtain ⟨rfl, rfl, rfl, rfl, rfl⟩ := h
        go_enter Try.func55, Try.ntmps55
        go_wp2_with (first | ((with_reducible refine gDs (N := 2) rfl ?_); refine bEv ?hg (N := 2) ?hd (cs := #[.bool false, .int .i64 0, .int .i64 0, .int .i64 0]) (t := 59) ?hr ?_; (case hd => rfl); (case hg => rfl); (case hr => first | (go_simp; done) | (go_simp; rfl)); intro gb2 hg w3 hbox hb; have n4_ := AsZ.mk ((by rw [hg]; exact (zBl (by repeat (first | (with_reducible first | exact HB.out | apply aBl | apply pBd | apply dBl) | exact HB.out)))) : w.heap.size ≤ gb2); have n1_ := AsZ.mk (tBl (by repeat (first | (with_reducible first | exact HB.out | apply aBl | apply pBd | apply dBl) | exact HB.out)) hb); clear HB; have HB := n1_; clear n1_; have BK2 := AsZ.mk (hbox); have GE2 := n4_; clear n4_; clear hb hbox hg; have hcz2_0_w3 : w3.cell? ⟨gb2, 0, none⟩ = some (.bool false) := (bCe BK2.out 0).trans rfl; have hfz2_0_w3 := bFz BK2.out 0; have hcz2_1_w3 : w3.cell? ⟨gb2, 1, none⟩ = some (.int .i64 0) := (bCe BK2.out 1).trans rfl; have hfz2_1_w3 := bFz BK2.out 1; have hcz2_2_w3 : w3.cell? ⟨gb2, 2, none⟩ = some (.int .i64 0) := (bCe BK2.out 2).trans rfl; have hfz2_2_w3 := bFz BK2.out 2; have hcz2_3_w3 : w3.cell? ⟨gb2, 3, none⟩ = some (.int .i64 0) := (bCe BK2.out 3).trans rfl; have hfz2_3_w3 := bFz BK2.out 3))
        refine (text_Cut.calls a0 32 c1 c2 true _ h1).mono ?_
        rintro e w' ⟨rfl, ⟨nd, rfl⟩⟩
        dsimp only
        go_wp2_with (fail)
        refine (text_Cut.calls c2 47 d1 d2 true _ h2).mono ?_
        rintro e w' ⟨rfl, ⟨nd, rfl⟩⟩
        dsimp only
        go_wp2_with (fail)
        refine (text_Fold.calls c1 (⟨#[98, 121, 116, 101, 115]⟩ : ByteArray) false _ h3).mono ?_; rintro e w4 ⟨rfl, hb⟩; have m2_ := AsZ.mk (bBl (g := gb2) (o := .cells #[.bool false, .int .i64 0, .int .i64 0, .int .i64 0] 59 (0, 0)) (by (with_reducible repeat first | apply bDn | apply bDr | apply bAl); exact BK2.out) hb); have n1_ := AsZ.mk (tBl (by repeat (first | (with_reducible first | exact HB.out | apply aBl | apply pBd | apply dBl | refine sBl ?_ GE2.out) | exact HB.out)) hb); clear BK2; have BK2 := m2_; clear m2_; clear HB; have HB := n1_; clear n1_; clear hb; have hcz2_0_w4 : w4.cell? ⟨gb2, 0, none⟩ = some (.bool false) := (bCe BK2.out 0).trans rfl; have hfz2_0_w4 := bFz BK2.out 0; have hcz2_1_w4 : w4.cell? ⟨gb2, 1, none⟩ = some (.int .i64 0) := (bCe BK2.out 1).trans rfl; have hfz2_1_w4 := bFz BK2.out 1; have hcz2_2_w4 : w4.cell? ⟨gb2, 2, none⟩ = some (.int .i64 0) := (bCe BK2.out 2).trans rfl; have hfz2_2_w4 := bFz BK2.out 2; have hcz2_3_w4 : w4.cell? ⟨gb2, 3, none⟩ = some (.int .i64 0) := (bCe BK2.out 3).trans rfl; have hfz2_3_w4 := bFz BK2.out 3; dsimp only
        go_wp2_with (fail)
        refine bodyPost_ret (results_ct rfl _ _ gb2 59 #[.bool false, .int .i64 0, .int .i64 0, .int .i64 0] (0, 0) _ rfl (by (with_reducible repeat first | apply bDn | apply bDr | apply bAl); refine crange_put4 (.bool false) (.int .i64 0) (.int .i64 0) (.int .i64 0) ?_; (with_reducible repeat first | apply bDn | apply bDr | apply bAl); exact BK2.out) Try.underlying59 rfl (by kernel_rfl)) rfl ?_
        exact ⟨by first | rfl | (simp; done) | (simp [*]; done), by repeat (first | (with_reducible first | exact HB.out | apply aBl | apply pBd | apply dBl | refine sBl ?_ GE2.out) | exact HB.out)⟩
      | true =>
        rw [if_pos rfl] at h
        by_cases hA : d1.toList = ([42] : List UInt8)
        · rw [if_pos hA] at h
          have hA0 : (d1.toList == ([42] : List UInt8)) = true := beq_iff_eq.mpr hA
          have hA1 : (d1.toList != ([42] : List UInt8)) = false := bne_eq_false_iff_eq.mpr hA
          unfold crange_Parse.t at h
          by_cases hT : d2.toList = ([42] : List UInt8)
          · rw [if_pos hT] at h
            have hT0 : (d2.toList == ([42] : List UInt8)) = true := beq_iff_eq.mpr hT
            have hT1 : (d2.toList != ([42] : List UInt8)) = false := bne_eq_false_iff_eq.mpr hT
            replace h := AsZ.mk h
            go_enter Try.func55, Try.ntmps55
            go_wp2_with (first | ((with_reducible refine gDs (N := 2) rfl ?_); refine bEv ?hg (N := 2) ?hd (cs := #[.bool false, .int .i64 0, .int .i64 0, .int .i64 0]) (t := 59) ?hr ?_; (case hd => rfl); (case hg => rfl); (case hr => first | (go_simp; done) | (go_simp; rfl)); intro gb2 hg w3 hbox hb; have n4_ := AsZ.mk ((by rw [hg]; exact (zBl (by repeat (first | (with_reducible first | exact HB.out | apply aBl | apply pBd | apply dBl) | exact HB.out)))) : w.heap.size ≤ gb2); have n1_ := AsZ.mk (tBl (by repeat (first | (with_reducible first | exact HB.out | apply aBl | apply pBd | apply dBl) | exact HB.out)) hb); clear HB; have HB := n1_; clear n1_; have BK2 := AsZ.mk (hbox); have GE2 := n4_; clear n4_; clear hb hbox hg; have hcz2_0_w3 : w3.cell? ⟨gb2, 0, none⟩ = some (.bool false) := (bCe BK2.out 0).trans rfl; have hfz2_0_w3 := bFz BK2.out 0; have hcz2_1_w3 : w3.cell? ⟨gb2, 1, none⟩ = some (.int .i64 0) := (bCe BK2.out 1).trans rfl; have hfz2_1_w3 := bFz BK2.out 1; have hcz2_2_w3 : w3.cell? ⟨gb2, 2, none⟩ = some (.int .i64 0) := (bCe BK2.out 2).trans rfl; have hfz2_2_w3 := bFz BK2.out 2; have hcz2_3_w3 : w3.cell? ⟨gb2, 3, none⟩ = some (.int .i64 0) := (bCe BK2.out 3).trans rfl; have hfz2_3_w3 := bFz BK2.out 3))
            refine (text_Cut.calls a0 32 c1 c2 true _ h1).mono ?_
            rintro e w' ⟨rfl, ⟨nd, rfl⟩⟩
            dsimp only
            go_wp2_with (fail)
            refine (text_Cut.calls c2 47 d1 d2 true _ h2).mono ?_
            rintro e w' ⟨rfl, ⟨nd, rfl⟩⟩
            dsimp only
            go_wp2_with (fail)
            refine (text_Fold.calls c1 (⟨#[98, 121, 116, 101, 115]⟩ : ByteArray) true _ h3).mono ?_; rintro e w4 ⟨rfl, hb⟩; have m2_ := AsZ.mk (bBl (g := gb2) (o := .cells #[.bool false, .int .i64 0, .int .i64 0, .int .i64 0] 59 (0, 0)) (by (with_reducible repeat first | apply bDn | apply bDr | apply bAl); exact BK2.out) hb); have n1_ := AsZ.mk (tBl (by repeat (first | (with_reducible first | exact HB.out | apply aBl | apply pBd | apply dBl | refine sBl ?_ GE2.out) | exact HB.out)) hb); clear BK2; have BK2 := m2_; clear m2_; clear HB; have HB := n1_; clear n1_; clear hb; have hcz2_0_w4 : w4.cell? ⟨gb2, 0, none⟩ = some (.bool false) := (bCe BK2.out 0).trans rfl; have hfz2_0_w4 := bFz BK2.out 0; have hcz2_1_w4 : w4.cell? ⟨gb2, 1, none⟩ = some (.int .i64 0) := (bCe BK2.out 1).trans rfl; have hfz2_1_w4 := bFz BK2.out 1; have hcz2_2_w4 : w4.cell? ⟨gb2, 2, none⟩ = some (.int .i64 0) := (bCe BK2.out 2).trans rfl; have hfz2_2_w4 := bFz BK2.out 2; have hcz2_3_w4 : w4.cell? ⟨gb2, 3, none⟩ = some (.int .i64 0) := (bCe BK2.out 3).trans rfl; have hfz2_3_w4 := bFz BK2.out 3; dsimp only
            go_wp2_with (first | ((with_reducible refine gDs (N := 41) rfl ?_); refine bEv ?hg (N := 41) ?hd (cs := #[.int .i64 0]) (t := 91) ?hr ?_; (case hd => rfl); (case hg => rfl); (case hr => first | (go_simp; done) | (go_simp; rfl)); intro gb41 hg w5 hbox hb; have n4_ := AsZ.mk ((by rw [hg]; exact (zBl (by repeat (first | (with_reducible first | exact HB.out | apply aBl | apply pBd | apply dBl | refine sBl ?_ GE2.out) | exact HB.out)))) : w.heap.size ≤ gb41); have NB2_41 := AsZ.mk ((by rw [hg]; exact Nat.ne_of_lt (bLt (g := gb2) (o := .cells #[.bool false, .int .i64 0, .int .i64 0, .int .i64 0] 59 (0, 0)) (by (with_reducible repeat first | apply bDn | apply bDr | apply bAl); exact BK2.out))) : gb2 ≠ gb41); have NB41_2 := AsZ.mk ((by rw [hg]; exact Nat.ne_of_gt (bLt (g := gb2) (o := .cells #[.bool false, .int .i64 0, .int .i64 0, .int .i64 0] 59 (0, 0)) (by (with_reducible repeat first | apply bDn | apply bDr | apply bAl); exact BK2.out))) : gb41 ≠ gb2); have hnb2_41 := NB2_41.out; have hnb41_2 := NB41_2.out; have m2_ := AsZ.mk (bBl (g := gb2) (o := .cells #[.bool false, .int .i64 0, .int .i64 0, .int .i64 0] 59 (0, 0)) (by (with_reducible repeat first | apply bDn | apply bDr | apply bAl); exact BK2.out) hb); have n1_ := AsZ.mk (tBl (by repeat (first | (with_reducible first | exact HB.out | apply aBl | apply pBd | apply dBl | refine sBl ?_ GE2.out) | exact HB.out)) hb); clear BK2; have BK2 := m2_; clear m2_; clear HB; have HB := n1_; clear n1_; have BK41 := AsZ.mk (hbox); have GE41 := n4_; clear n4_; clear hb hbox hg; have hcz2_0_w5 : w5.cell? ⟨gb2, 0, none⟩ = some (.bool false) := (bCe BK2.out 0).trans rfl; have hfz2_0_w5 := bFz BK2.out 0; have hcz2_1_w5 : w5.cell? ⟨gb2, 1, none⟩ = some (.int .i64 0) := (bCe BK2.out 1).trans rfl; have hfz2_1_w5 := bFz BK2.out 1; have hcz2_2_w5 : w5.cell? ⟨gb2, 2, none⟩ = some (.int .i64 0) := (bCe BK2.out 2).trans rfl; have hfz2_2_w5 := bFz BK2.out 2; have hcz2_3_w5 : w5.cell? ⟨gb2, 3, none⟩ = some (.int .i64 0) := (bCe BK2.out 3).trans rfl; have hfz2_3_w5 := bFz BK2.out 3; have hcz41_0_w5 : w5.cell? ⟨gb41, 0, none⟩ = some (.int .i64 0) := (bCe BK41.out 0).trans rfl; have hfz41_0_w5 := bFz BK41.out 0) | ((with_reducible refine gDs (N := 12) rfl ?_); refine bEv ?hg (N := 12) ?hd (cs := #[.bool false, .int .i64 0, .int .i64 0, .int .i64 0]) (t := 59) ?hr ?_; (case hd => rfl); (case hg => rfl); (case hr => first | (go_simp; done) | (go_simp; rfl)); intro gb12 hg w6 hbox hb; have n4_ := AsZ.mk ((by rw [hg]; exact (zBl (by repeat (first | (with_reducible first | exact HB.out | apply aBl | apply pBd | apply dBl | refine sBl ?_ GE2.out | refine sBl ?_ GE41.out) | exact HB.out)))) : w.heap.size ≤ gb12); have NB2_12 := AsZ.mk ((by rw [hg]; exact Nat.ne_of_lt (bLt (g := gb2) (o := .cells #[.bool false, .int .i64 0, .int .i64 0, .int .i64 0] 59 (0, 0)) (by (with_reducible repeat first | apply bDn | apply bDr | apply bAl); exact BK2.out))) : gb2 ≠ gb12); have NB12_2 := AsZ.mk ((by rw [hg]; exact Nat.ne_of_gt (bLt (g := gb2) (o := .cells #[.bool false, .int .i64 0, .int .i64 0, .int .i64 0] 59 (0, 0)) (by (with_reducible repeat first | apply bDn | apply bDr | apply bAl); exact BK2.out))) : gb12 ≠ gb2); have hnb2_12 := NB2_12.out; have hnb12_2 := NB12_2.out; have NB41_12 := AsZ.mk ((by rw [hg]; exact Nat.ne_of_lt (bLt (g := gb41) (o := .cells #[.int .i64 0] 91 (0, 0)) (by (with_reducible repeat first | apply bDn | apply bDr | apply bAl); exact BK41.out))) : gb41 ≠ gb12); have NB12_41 := AsZ.mk ((by rw [hg]; exact Nat.ne_of_gt (bLt (g := gb41) (o := .cells #[.int .i64 0] 91 (0, 0)) (by (with_reducible repeat first | apply bDn | apply bDr | apply bAl); exact BK41.out))) : gb12 ≠ gb41); have hnb41_12 := NB41_12.out; have hnb12_41 := NB12_41.out; have m2_ := AsZ.mk (bBl (g := gb2) (o := .cells #[.bool false, .int .i64 0, .int .i64 0, .int .i64 0] 59 (0, 0)) (by (with_reducible repeat first | apply bDn | apply bDr | apply bAl); exact BK2.out) hb); have m41_ := AsZ.mk (bBl (g := gb41) (o := .cells #[.int .i64 0] 91 (0, 0)) (by (with_reducible repeat first | apply bDn | apply bDr | apply bAl); exact BK41.out) hb); have n1_ := AsZ.mk (tBl (by repeat (first | (with_reducible first | exact HB.out | apply aBl | apply pBd | apply dBl | refine sBl ?_ GE2.out | refine sBl ?_ GE41.out) | exact HB.out)) hb); clear BK2; have BK2 := m2_; clear m2_; clear BK41; have BK41 := m41_; clear m41_; clear HB; have HB := n1_; clear n1_; have BK12 := AsZ.mk (hbox); have GE12 := n4_; clear n4_; clear hb hbox hg; have hcz2_0_w6 : w6.cell? ⟨gb2, 0, none⟩ = some (.bool false) := (bCe BK2.out 0).trans rfl; have hfz2_0_w6 := bFz BK2.out 0; have hcz2_1_w6 : w6.cell? ⟨gb2, 1, none⟩ = some (.int .i64 0) := (bCe BK2.out 1).trans rfl; have hfz2_1_w6 := bFz BK2.out 1; have hcz2_2_w6 : w6.cell? ⟨gb2, 2, none⟩ = some (.int .i64 0) := (bCe BK2.out 2).trans rfl; have hfz2_2_w6 := bFz BK2.out 2; have hcz2_3_w6 : w6.cell? ⟨gb2, 3, none⟩ = some (.int .i64 0) := (bCe BK2.out 3).trans rfl; have hfz2_3_w6 := bFz BK2.out 3; have hcz41_0_w6 : w6.cell? ⟨gb41, 0, none⟩ = some (.int .i64 0) := (bCe BK41.out 0).trans rfl; have hfz41_0_w6 := bFz BK41.out 0; have hcz12_0_w6 : w6.cell? ⟨gb12, 0, none⟩ = some (.bool false) := (bCe BK12.out 0).trans rfl; have hfz12_0_w6 := bFz BK12.out 0; have hcz12_1_w6 : w6.cell? ⟨gb12, 1, none⟩ = some (.int .i64 0) := (bCe BK12.out 1).trans rfl; have hfz12_1_w6 := bFz BK12.out 1; have hcz12_2_w6 : w6.cell? ⟨gb12, 2, none⟩ = some (.int .i64 0) := (bCe BK12.out 2).trans rfl; have hfz12_2_w6 := bFz BK12.out 2; have hcz12_3_w6 : w6.cell? ⟨gb12, 3, none⟩ = some (.int .i64 0) := (bCe BK12.out 3).trans rfl; have hfz12_3_w6 := bFz BK12.out 3))
            replace h := h.out
            unfold crange_Parse.e at h
            rw [if_pos rfl] at h
            replace h := Option.bind_eq_some_iff.mp h
            obtain ⟨rr, hR, h⟩ := h
            replace h := AsZ.mk h
            go_wp2_with (fail)
            refine (crange_Right.calls k false 0 0 (-1) rr _ hR).mono ?_; rintro e w7 ⟨rfl, hb⟩; have m2_ := AsZ.mk (bBl (g := gb2) (o := .cells #[.bool false, .int .i64 0, .int .i64 0, .int .i64 0] 59 (0, 0)) (by (with_reducible repeat first | apply bDn | apply bDr | apply bAl); refine crange_far4 ?_ NB2_12.out; (with_reducible repeat first | apply bDn | apply bDr | apply bAl); exact BK2.out) hb); have m41_ := AsZ.mk (bBl (g := gb41) (o := .cells #[.int .i64 0] 91 (0, 0)) (by (with_reducible repeat first | apply bDn | apply bDr | apply bAl); refine crange_far4 ?_ NB41_12.out; (with_reducible repeat first | apply bDn | apply bDr | apply bAl); exact BK41.out) hb); have m12_ := AsZ.mk (bBl (g := gb12) (o := .cells #[.bool false, .int .i64 0, .int .i64 0, .int .i64 (-1)] 59 (0, 0)) (by (with_reducible repeat first | apply bDn | apply bDr | apply bAl); refine crange_put4 (.bool false) (.int .i64 0) (.int .i64 0) (.int .i64 0) ?_; (with_reducible repeat first | apply bDn | apply bDr | apply bAl); exact BK12.out) hb); have n1_ := AsZ.mk (tBl (by repeat (first | (with_reducible first | exact HB.out | apply aBl | apply pBd | apply dBl | refine sBl ?_ GE2.out | refine sBl ?_ GE41.out | refine sBl ?_ GE12.out) | exact HB.out)) hb); clear BK2; have BK2 := m2_; clear m2_; clear BK41; have BK41 := m41_; clear m41_; clear BK12; have BK12 := m12_; clear m12_; clear HB; have HB := n1_; clear n1_; clear hb; have hcz2_0_w7 : w7.cell? ⟨gb2, 0, none⟩ = some (.bool false) := (bCe BK2.out 0).trans rfl; have hfz2_0_w7 := bFz BK2.out 0; have hcz2_1_w7 : w7.cell? ⟨gb2, 1, none⟩ = some (.int .i64 0) := (bCe BK2.out 1).trans rfl; have hfz2_1_w7 := bFz BK2.out 1; have hcz2_2_w7 : w7.cell? ⟨gb2, 2, none⟩ = some (.int .i64 0) := (bCe BK2.out 2).trans rfl; have hfz2_2_w7 := bFz BK2.out 2; have hcz2_3_w7 : w7.cell? ⟨gb2, 3, none⟩ = some (.int .i64 0) := (bCe BK2.out 3).trans rfl; have hfz2_3_w7 := bFz BK2.out 3; have hcz41_0_w7 : w7.cell? ⟨gb41, 0, none⟩ = some (.int .i64 0) := (bCe BK41.out 0).trans rfl; have hfz41_0_w7 := bFz BK41.out 0; have hcz12_0_w7 : w7.cell? ⟨gb12, 0, none⟩ = some (.bool false) := (bCe BK12.out 0).trans rfl; have hfz12_0_w7 := bFz BK12.out 0; have hcz12_1_w7 : w7.cell? ⟨gb12, 1, none⟩ = some (.int .i64 0) := (bCe BK12.out 1).trans rfl; have hfz12_1_w7 := bFz BK12.out 1; have hcz12_2_w7 : w7.cell? ⟨gb12, 2, none⟩ = some (.int .i64 0) := (bCe BK12.out 2).trans rfl; have hfz12_2_w7 := bFz BK12.out 2; have hcz12_3_w7 : w7.cell? ⟨gb12, 3, none⟩ = some (.int .i64 (-1)) := (bCe BK12.out 3).trans rfl; have hfz12_3_w7 := bFz BK12.out 3; dsimp only
            replace h := h.out
            cases rr with
            | false =>
              rw [if_neg (by decide)] at h
              simp only [Option.some.injEq, Prod.mk.injEq] at h
              obtain ⟨rfl, rfl, rfl, rfl, rfl⟩ := h
              go_wp2_with (fail)
              refine bodyPost_ret (results_ct rfl _ _ gb2 59 #[.bool false, .int .i64 0, .int .i64 0, .int .i64 0] (0, 0) _ rfl (by (with_reducible repeat first | apply bDn | apply bDr | apply bAl); refine crange_put4 (.bool false) (.int .i64 0) (.int .i64 0) (.int .i64 0) ?_; (with_reducible repeat first | apply bDn | apply bDr | apply bAl); exact BK2.out) Try.underlying59 rfl (by kernel_rfl)) rfl ?_
              exact ⟨by first | rfl | (simp; done) | (simp [*]; done), by repeat (first | (with_reducible first | exact HB.out | apply aBl | apply pBd | apply dBl | refine sBl ?_ GE2.out | refine sBl ?_ GE41.out | refine sBl ?_ GE12.out) | exact HB.out)⟩
            | true =>
              rw [if_pos rfl] at h
              simp only [Option.some.injEq, Prod.mk.injEq] at h
              obtain ⟨rfl, rfl, rfl, rfl, rfl⟩ := h
              go_wp2_with (fail)
              refine bodyPost_ret (results_ct rfl _ _ gb2 59 #[.bool false, .int .i64 0, .int .i64 0, .int .i64 (-1)] (0, 0) _ rfl (by (with_reducible repeat first | apply bDn | apply bDr | apply bAl); refine crange_put4 (.bool false) (.int .i64 0) (.int .i64 0) (.int .i64 0) ?_; (with_reducible repeat first | apply bDn | apply bDr | apply bAl); exact BK2.out) Try.underlying59 rfl (by kernel_rfl)) rfl ?_
              exact ⟨by first | rfl | (simp; done) | (simp [*]; done), by repeat (first | (with_reducible first | exact HB.out | apply aBl | apply pBd | apply dBl | refine sBl ?_ GE2.out | refine sBl ?_ GE41.out | refine sBl ?_ GE12.out) | exact HB.out)⟩
          · rw [if_neg hT] at h
            have hT0 : (d2.toList == ([42] : List UInt8)) = false := beq_eq_false_iff_ne.mpr hT
            have hT1 : (d2.toList != ([42] : List UInt8)) = true := bne_iff_ne.mpr hT
            replace h := Option.bind_eq_some_iff.mp h
            obtain ⟨⟨n3, b3⟩, h7, h⟩ := h
            dsimp only at h7 h
            replace h := AsZ.mk h
            go_enter Try.func55, Try.ntmps55
            go_wp2_with (first | ((with_reducible refine gDs (N := 2) rfl ?_); refine bEv ?hg (N := 2) ?hd (cs := #[.bool false, .int .i64 0, .int .i64 0, .int .i64 0]) (t := 59) ?hr ?_; (case hd => rfl); (case hg => rfl); (case hr => first | (go_simp; done) | (go_simp; rfl)); intro gb2 hg w3 hbox hb; have n4_ := AsZ.mk ((by rw [hg]; exact (zBl (by repeat (first | (with_reducible first | exact HB.out | apply aBl | apply pBd | apply dBl) | exact HB.out)))) : w.heap.size ≤ gb2); have n1_ := AsZ.mk (tBl (by repeat (first | (with_reducible first | exact HB.out | apply aBl | apply pBd | apply dBl) | exact HB.out)) hb); clear HB; have HB := n1_; clear n1_; have BK2 := AsZ.mk (hbox); have GE2 := n4_; clear n4_; clear hb hbox hg; have hcz2_0_w3 : w3.cell? ⟨gb2, 0, none⟩ = some (.bool false) := (bCe BK2.out 0).trans rfl; have hfz2_0_w3 := bFz BK2.out 0; have hcz2_1_w3 : w3.cell? ⟨gb2, 1, none⟩ = some (.int .i64 0) := (bCe BK2.out 1).trans rfl; have hfz2_1_w3 := bFz BK2.out 1; have hcz2_2_w3 : w3.cell? ⟨gb2, 2, none⟩ = some (.int .i64 0) := (bCe BK2.out 2).trans rfl; have hfz2_2_w3 := bFz BK2.out 2; have hcz2_3_w3 : w3.cell? ⟨gb2, 3, none⟩ = some (.int .i64 0) := (bCe BK2.out 3).trans rfl; have hfz2_3_w3 := bFz BK2.out 3))
            refine (text_Cut.calls a0 32 c1 c2 true _ h1).mono ?_
            rintro e w' ⟨rfl, ⟨nd, rfl⟩⟩
            dsimp only
            go_wp2_with (fail)
            refine (text_Cut.calls c2 47 d1 d2 true _ h2).mono ?_
            rintro e w' ⟨rfl, ⟨nd, rfl⟩⟩
            dsimp only
            go_wp2_with (fail)
            refine (text_Fold.calls c1 (⟨#[98, 121, 116, 101, 115]⟩ : ByteArray) true _ h3).mono ?_; rintro e w4 ⟨rfl, hb⟩; have m2_ := AsZ.mk (bBl (g := gb2) (o := .cells #[.bool false, .int .i64 0, .int .i64 0, .int .i64 0] 59 (0, 0)) (by (with_reducible repeat first | apply bDn | apply bDr | apply bAl); exact BK2.out) hb); have n1_ := AsZ.mk (tBl (by repeat (first | (with_reducible first | exact HB.out | apply aBl | apply pBd | apply dBl | refine sBl ?_ GE2.out) | exact HB.out)) hb); clear BK2; have BK2 := m2_; clear m2_; clear HB; have HB := n1_; clear n1_; clear hb; have hcz2_0_w4 : w4.cell? ⟨gb2, 0, none⟩ = some (.bool false) := (bCe BK2.out 0).trans rfl; have hfz2_0_w4 := bFz BK2.out 0; have hcz2_1_w4 : w4.cell? ⟨gb2, 1, none⟩ = some (.int .i64 0) := (bCe BK2.out 1).trans rfl; have hfz2_1_w4 := bFz BK2.out 1; have hcz2_2_w4 : w4.cell? ⟨gb2, 2, none⟩ = some (.int .i64 0) := (bCe BK2.out 2).trans rfl; have hfz2_2_w4 := bFz BK2.out 2; have hcz2_3_w4 : w4.cell? ⟨gb2, 3, none⟩ = some (.int .i64 0) := (bCe BK2.out 3).trans rfl; have hfz2_3_w4 := bFz BK2.out 3; dsimp only
            go_wp2_with (first | ((with_reducible refine gDs (N := 41) rfl ?_); refine bEv ?hg (N := 41) ?hd (cs := #[.int .i64 0]) (t := 91) ?hr ?_; (case hd => rfl); (case hg => rfl); (case hr => first | (go_simp; done) | (go_simp; rfl)); intro gb41 hg w5 hbox hb; have n4_ := AsZ.mk ((by rw [hg]; exact (zBl (by repeat (first | (with_reducible first | exact HB.out | apply aBl | apply pBd | apply dBl | refine sBl ?_ GE2.out) | exact HB.out)))) : w.heap.size ≤ gb41); have NB2_41 := AsZ.mk ((by rw [hg]; exact Nat.ne_of_lt (bLt (g := gb2) (o := .cells #[.bool false, .int .i64 0, .int .i64 0, .int .i64 0] 59 (0, 0)) (by (with_reducible repeat first | apply bDn | apply bDr | apply bAl); exact BK2.out))) : gb2 ≠ gb41); have NB41_2 := AsZ.mk ((by rw [hg]; exact Nat.ne_of_gt (bLt (g := gb2) (o := .cells #[.bool false, .int .i64 0, .int .i64 0, .int .i64 0] 59 (0, 0)) (by (with_reducible repeat first | apply bDn | apply bDr | apply bAl); exact BK2.out))) : gb41 ≠ gb2); have hnb2_41 := NB2_41.out; have hnb41_2 := NB41_2.out; have m2_ := AsZ.mk (bBl (g := gb2) (o := .cells #[.bool false, .int .i64 0, .int .i64 0, .int .i64 0] 59 (0, 0)) (by (with_reducible repeat first | apply bDn | apply bDr | apply bAl); exact BK2.out) hb); have n1_ := AsZ.mk (tBl (by repeat (first | (with_reducible first | exact HB.out | apply aBl | apply pBd | apply dBl | refine sBl ?_ GE2.out) | exact HB.out)) hb); clear BK2; have BK2 := m2_; clear m2_; clear HB; have HB := n1_; clear n1_; have BK41 := AsZ.mk (hbox); have GE41 := n4_; clear n4_; clear hb hbox hg; have hcz2_0_w5 : w5.cell? ⟨gb2, 0, none⟩ = some (.bool false) := (bCe BK2.out 0).trans rfl; have hfz2_0_w5 := bFz BK2.out 0; have hcz2_1_w5 : w5.cell? ⟨gb2, 1, none⟩ = some (.int .i64 0) := (bCe BK2.out 1).trans rfl; have hfz2_1_w5 := bFz BK2.out 1; have hcz2_2_w5 : w5.cell? ⟨gb2, 2, none⟩ = some (.int .i64 0) := (bCe BK2.out 2).trans rfl; have hfz2_2_w5 := bFz BK2.out 2; have hcz2_3_w5 : w5.cell? ⟨gb2, 3, none⟩ = some (.int .i64 0) := (bCe BK2.out 3).trans rfl; have hfz2_3_w5 := bFz BK2.out 3; have hcz41_0_w5 : w5.cell? ⟨gb41, 0, none⟩ = some (.int .i64 0) := (bCe BK41.out 0).trans rfl; have hfz41_0_w5 := bFz BK41.out 0) | ((with_reducible refine gDs (N := 12) rfl ?_); refine bEv ?hg (N := 12) ?hd (cs := #[.bool false, .int .i64 0, .int .i64 0, .int .i64 0]) (t := 59) ?hr ?_; (case hd => rfl); (case hg => rfl); (case hr => first | (go_simp; done) | (go_simp; rfl)); intro gb12 hg w6 hbox hb; have n4_ := AsZ.mk ((by rw [hg]; exact (zBl (by repeat (first | (with_reducible first | exact HB.out | apply aBl | apply pBd | apply dBl | refine sBl ?_ GE2.out | refine sBl ?_ GE41.out) | exact HB.out)))) : w.heap.size ≤ gb12); have NB2_12 := AsZ.mk ((by rw [hg]; exact Nat.ne_of_lt (bLt (g := gb2) (o := .cells #[.bool false, .int .i64 0, .int .i64 0, .int .i64 0] 59 (0, 0)) (by (with_reducible repeat first | apply bDn | apply bDr | apply bAl); exact BK2.out))) : gb2 ≠ gb12); have NB12_2 := AsZ.mk ((by rw [hg]; exact Nat.ne_of_gt (bLt (g := gb2) (o := .cells #[.bool false, .int .i64 0, .int .i64 0, .int .i64 0] 59 (0, 0)) (by (with_reducible repeat first | apply bDn | apply bDr | apply bAl); exact BK2.out))) : gb12 ≠ gb2); have hnb2_12 := NB2_12.out; have hnb12_2 := NB12_2.out; have NB41_12 := AsZ.mk ((by rw [hg]; exact Nat.ne_of_lt (bLt (g := gb41) (o := .cells #[.int .i64 0] 91 (0, 0)) (by (with_reducible repeat first | apply bDn | apply bDr | apply bAl); exact BK41.out))) : gb41 ≠ gb12); have NB12_41 := AsZ.mk ((by rw [hg]; exact Nat.ne_of_gt (bLt (g := gb41) (o := .cells #[.int .i64 0] 91 (0, 0)) (by (with_reducible repeat first | apply bDn | apply bDr | apply bAl); exact BK41.out))) : gb12 ≠ gb41); have hnb41_12 := NB41_12.out; have hnb12_41 := NB12_41.out; have m2_ := AsZ.mk (bBl (g := gb2) (o := .cells #[.bool false, .int .i64 0, .int .i64 0, .int .i64 0] 59 (0, 0)) (by (with_reducible repeat first | apply bDn | apply bDr | apply bAl); exact BK2.out) hb); have m41_ := AsZ.mk (bBl (g := gb41) (o := .cells #[.int .i64 0] 91 (0, 0)) (by (with_reducible repeat first | apply bDn | apply bDr | apply bAl); exact BK41.out) hb); have n1_ := AsZ.mk (tBl (by repeat (first | (with_reducible first | exact HB.out | apply aBl | apply pBd | apply dBl | refine sBl ?_ GE2.out | refine sBl ?_ GE41.out) | exact HB.out)) hb); clear BK2; have BK2 := m2_; clear m2_; clear BK41; have BK41 := m41_; clear m41_; clear HB; have HB := n1_; clear n1_; have BK12 := AsZ.mk (hbox); have GE12 := n4_; clear n4_; clear hb hbox hg; have hcz2_0_w6 : w6.cell? ⟨gb2, 0, none⟩ = some (.bool false) := (bCe BK2.out 0).trans rfl; have hfz2_0_w6 := bFz BK2.out 0; have hcz2_1_w6 : w6.cell? ⟨gb2, 1, none⟩ = some (.int .i64 0) := (bCe BK2.out 1).trans rfl; have hfz2_1_w6 := bFz BK2.out 1; have hcz2_2_w6 : w6.cell? ⟨gb2, 2, none⟩ = some (.int .i64 0) := (bCe BK2.out 2).trans rfl; have hfz2_2_w6 := bFz BK2.out 2; have hcz2_3_w6 : w6.cell? ⟨gb2, 3, none⟩ = some (.int .i64 0) := (bCe BK2.out 3).trans rfl; have hfz2_3_w6 := bFz BK2.out 3; have hcz41_0_w6 : w6.cell? ⟨gb41, 0, none⟩ = some (.int .i64 0) := (bCe BK41.out 0).trans rfl; have hfz41_0_w6 := bFz BK41.out 0; have hcz12_0_w6 : w6.cell? ⟨gb12, 0, none⟩ = some (.bool false) := (bCe BK12.out 0).trans rfl; have hfz12_0_w6 := bFz BK12.out 0; have hcz12_1_w6 : w6.cell? ⟨gb12, 1, none⟩ = some (.int .i64 0) := (bCe BK12.out 1).trans rfl; have hfz12_1_w6 := bFz BK12.out 1; have hcz12_2_w6 : w6.cell? ⟨gb12, 2, none⟩ = some (.int .i64 0) := (bCe BK12.out 2).trans rfl; have hfz12_2_w6 := bFz BK12.out 2; have hcz12_3_w6 : w6.cell? ⟨gb12, 3, none⟩ = some (.int .i64 0) := (bCe BK12.out 3).trans rfl; have hfz12_3_w6 := bFz BK12.out 3))
            go_wp2_with (fail)
            refine (crNum.calls k gb41 0 d2 n3 b3 w _ ⟨(by (with_reducible repeat first | apply bDn | apply bDr | apply bAl); refine crange_far4 ?_ NB41_12.out; (with_reducible repeat first | apply bDn | apply bDr | apply bAl); exact BK41.out), GE41.out⟩ (by repeat (first | (with_reducible first | exact HB.out | apply aBl | apply pBd | apply dBl | refine sBl ?_ GE2.out | refine sBl ?_ GE41.out | refine sBl ?_ GE12.out) | exact HB.out)) h7).mono ?_
            rintro e w7 ⟨rfl, hI, hB2, hK⟩; have m2_ := AsZ.mk (hK.blk (o := .cells #[.bool false, .int .i64 0, .int .i64 0, .int .i64 0] 59 (0, 0)) (by (with_reducible repeat first | apply bDn | apply bDr | apply bAl); refine crange_far4 ?_ NB2_12.out; (with_reducible repeat first | apply bDn | apply bDr | apply bAl); exact BK2.out) NB2_41.out (by simp)); have m12_ := AsZ.mk (hK.blk (o := .cells #[.bool false, .int .i64 0, .int .i64 0, .int .i64 (-1)] 59 (0, 0)) (by (with_reducible repeat first | apply bDn | apply bDr | apply bAl); refine crange_put4 (.bool false) (.int .i64 0) (.int .i64 0) (.int .i64 0) ?_; (with_reducible repeat first | apply bDn | apply bDr | apply bAl); exact BK12.out) NB12_41.out (by simp)); clear BK2; have BK2 := m2_; clear m2_; clear BK12; have BK12 := m12_; clear m12_; clear BK41; have BK41 := AsZ.mk hI.1; clear HB; have HB := AsZ.mk hB2; clear hI hB2 hK; have hcz2_0_w7 : w7.cell? ⟨gb2, 0, none⟩ = some (.bool false) := (bCe BK2.out 0).trans rfl; have hfz2_0_w7 := bFz BK2.out 0; have hcz2_1_w7 : w7.cell? ⟨gb2, 1, none⟩ = some (.int .i64 0) := (bCe BK2.out 1).trans rfl; have hfz2_1_w7 := bFz BK2.out 1; have hcz2_2_w7 : w7.cell? ⟨gb2, 2, none⟩ = some (.int .i64 0) := (bCe BK2.out 2).trans rfl; have hfz2_2_w7 := bFz BK2.out 2; have hcz2_3_w7 : w7.cell? ⟨gb2, 3, none⟩ = some (.int .i64 0) := (bCe BK2.out 3).trans rfl; have hfz2_3_w7 := bFz BK2.out 3; have hcz41_0_w7 : w7.cell? ⟨gb41, 0, none⟩ = some (.int .i64 b3) := (bCe BK41.out 0).trans rfl; have hfz41_0_w7 := bFz BK41.out 0; have hcz12_0_w7 : w7.cell? ⟨gb12, 0, none⟩ = some (.bool false) := (bCe BK12.out 0).trans rfl; have hfz12_0_w7 := bFz BK12.out 0; have hcz12_1_w7 : w7.cell? ⟨gb12, 1, none⟩ = some (.int .i64 0) := (bCe BK12.out 1).trans rfl; have hfz12_1_w7 := bFz BK12.out 1; have hcz12_2_w7 : w7.cell? ⟨gb12, 2, none⟩ = some (.int .i64 0) := (bCe BK12.out 2).trans rfl; have hfz12_2_w7 := bFz BK12.out 2; have hcz12_3_w7 : w7.cell? ⟨gb12, 3, none⟩ = some (.int .i64 (-1)) := (bCe BK12.out 3).trans rfl; have hfz12_3_w7 := bFz BK12.out 3; dsimp only
            replace h := h.out
            unfold crange_Parse.e at h
            by_cases hz : b3 = 0
            · subst hz
              rw [if_pos rfl] at h
              replace h := Option.bind_eq_some_iff.mp h
              obtain ⟨rr, hR, h⟩ := h
              replace h := AsZ.mk h
              go_wp2_with (fail)
              refine (crange_Right.calls k false 0 0 n3 rr _ hR).mono ?_; rintro e w8 ⟨rfl, hb⟩; have m2_ := AsZ.mk (bBl (g := gb2) (o := .cells #[.bool false, .int .i64 0, .int .i64 0, .int .i64 0] 59 (0, 0)) (by (with_reducible repeat first | apply bDn | apply bDr | apply bAl); refine bFr ?_ NB2_12.out _; (with_reducible repeat first | apply bDn | apply bDr | apply bAl); exact BK2.out) hb); have m41_ := AsZ.mk (bBl (g := gb41) (o := .cells #[.int .i64 0] 91 (0, 0)) (by (with_reducible repeat first | apply bDn | apply bDr | apply bAl); refine bFr ?_ NB41_12.out _; (with_reducible repeat first | apply bDn | apply bDr | apply bAl); exact BK41.out) hb); have m12_ := AsZ.mk (bBl (g := gb12) (o := .cells #[.bool false, .int .i64 0, .int .i64 0, .int .i64 n3] 59 (0, 0)) (by (with_reducible repeat first | apply bDn | apply bDr | apply bAl); refine bPu (cs := #[.bool false, .int .i64 0, .int .i64 0, .int .i64 (-1)]) ?_ 3 _ rfl; (with_reducible repeat first | apply bDn | apply bDr | apply bAl); exact BK12.out) hb); have n1_ := AsZ.mk (tBl (by repeat (first | (with_reducible first | exact HB.out | apply aBl | apply pBd | apply dBl | refine sBl ?_ GE2.out | refine sBl ?_ GE41.out | refine sBl ?_ GE12.out) | exact HB.out)) hb); clear BK2; have BK2 := m2_; clear m2_; clear BK41; have BK41 := m41_; clear m41_; clear BK12; have BK12 := m12_; clear m12_; clear HB; have HB := n1_; clear n1_; clear hb; have hcz2_0_w8 : w8.cell? ⟨gb2, 0, none⟩ = some (.bool false) := (bCe BK2.out 0).trans rfl; have hfz2_0_w8 := bFz BK2.out 0; have hcz2_1_w8 : w8.cell? ⟨gb2, 1, none⟩ = some (.int .i64 0) := (bCe BK2.out 1).trans rfl; have hfz2_1_w8 := bFz BK2.out 1; have hcz2_2_w8 : w8.cell? ⟨gb2, 2, none⟩ = some (.int .i64 0) := (bCe BK2.out 2).trans rfl; have hfz2_2_w8 := bFz BK2.out 2; have hcz2_3_w8 : w8.cell? ⟨gb2, 3, none⟩ = some (.int .i64 0) := (bCe BK2.out 3).trans rfl; have hfz2_3_w8 := bFz BK2.out 3; have hcz41_0_w8 : w8.cell? ⟨gb41, 0, none⟩ = some (.int .i64 0) := (bCe BK41.out 0).trans rfl; have hfz41_0_w8 := bFz BK41.out 0; have hcz12_0_w8 : w8.cell? ⟨gb12, 0, none⟩ = some (.bool false) := (bCe BK12.out 0).trans rfl; have hfz12_0_w8 := bFz BK12.out 0; have hcz12_1_w8 : w8.cell? ⟨gb12, 1, none⟩ = some (.int .i64 0) := (bCe BK12.out 1).trans rfl; have hfz12_1_w8 := bFz BK12.out 1; have hcz12_2_w8 : w8.cell? ⟨gb12, 2, none⟩ = some (.int .i64 0) := (bCe BK12.out 2).trans rfl; have hfz12_2_w8 := bFz BK12.out 2; have hcz12_3_w8 : w8.cell? ⟨gb12, 3, none⟩ = some (.int .i64 n3) := (bCe BK12.out 3).trans rfl; have hfz12_3_w8 := bFz BK12.out 3; dsimp only
              replace h := h.out
              cases rr with
              | false =>
                rw [if_neg (by decide)] at h
                simp only [Option.some.injEq, Prod.mk.injEq] at h
                obtain ⟨rfl, rfl, rfl, rfl, rfl⟩ := h
                go_wp2_with (fail)
                refine bodyPost_ret (results_ct rfl _ _ gb2 59 #[.bool false, .int .i64 0, .int .i64 0, .int .i64 0] (0, 0) _ rfl (by (with_reducible repeat first | apply bDn | apply bDr | apply bAl); refine crange_put4 (.bool false) (.int .i64 0) (.int .i64 0) (.int .i64 0) ?_; (with_reducible repeat first | apply bDn | apply bDr | apply bAl); exact BK2.out) Try.underlying59 rfl (by kernel_rfl)) rfl ?_
                exact ⟨by first | rfl | (simp; done) | (simp [*]; done), by repeat (first | (with_reducible first | exact HB.out | apply aBl | apply pBd | apply dBl | refine sBl ?_ GE2.out | refine sBl ?_ GE41.out | refine sBl ?_ GE12.out) | exact HB.out)⟩
              | true =>
                rw [if_pos rfl] at h
                simp only [Option.some.injEq, Prod.mk.injEq] at h
                obtain ⟨rfl, rfl, rfl, rfl, rfl⟩ := h
                go_wp2_with (fail)
                refine bodyPost_ret (results_ct rfl _ _ gb2 59 #[.bool false, .int .i64 0, .int .i64 0, .int .i64 n3] (0, 0) _ rfl (by (with_reducible repeat first | apply bDn | apply bDr | apply bAl); refine crange_put4 (.bool false) (.int .i64 0) (.int .i64 0) (.int .i64 0) ?_; (with_reducible repeat first | apply bDn | apply bDr | apply bAl); exact BK2.out) Try.underlying59 rfl (by kernel_rfl)) rfl ?_
                exact ⟨by first | rfl | (simp; done) | (simp [*]; done), by repeat (first | (with_reducible first | exact HB.out | apply aBl | apply pBd | apply dBl | refine sBl ?_ GE2.out | refine sBl ?_ GE41.out | refine sBl ?_ GE12.out) | exact HB.out)⟩
            · rw [if_neg hz] at h
              simp only [Option.some.injEq, Prod.mk.injEq] at h
              obtain ⟨rfl, rfl, rfl, rfl, rfl⟩ := h
              have hz0 : (b3 == 0) = false := beq_eq_false_iff_ne.mpr hz
              have hz1 : (b3 != 0) = true := bne_iff_ne.mpr hz
              have hz2 : decide (b3 = 0) = false := decide_eq_false hz
              go_wp2_with (fail)
              go_region
              go_wp2_with (fail)
              refine bodyPost_ret (results_ct rfl _ _ gb2 59 #[.bool false, .int .i64 0, .int .i64 0, .int .i64 0] (0, 0) _ rfl (by (with_reducible repeat first | apply bDn | apply bDr | apply bAl); refine crange_put4 (.bool false) (.int .i64 0) (.int .i64 0) (.int .i64 0) ?_; (with_reducible repeat first | apply bDn | apply bDr | apply bAl); refine bFr ?_ NB2_12.out _; (with_reducible repeat first | apply bDn | apply bDr | apply bAl); exact BK2.out) Try.underlying59 rfl (by kernel_rfl)) rfl ?_
              exact ⟨by first | rfl | (simp; done) | (simp [*]; done), by repeat (first | (with_reducible first | exact HB.out | apply aBl | apply pBd | apply dBl | refine sBl ?_ GE2.out | refine sBl ?_ GE41.out | refine sBl ?_ GE12.out) | exact HB.out)⟩
        · rw [if_neg hA] at h
          have hA0 : (d1.toList == ([42] : List UInt8)) = false := beq_eq_false_iff_ne.mpr hA
          have hA1 : (d1.toList != ([42] : List UInt8)) = true := bne_iff_ne.mpr hA
          replace h := Option.bind_eq_some_iff.mp h
          obtain ⟨⟨g1, g2, g3⟩, h4, h⟩ := h
          dsimp only at h4 h
          replace h := AsZ.mk h
          go_enter Try.func55, Try.ntmps55
          go_wp2_with (first | ((with_reducible refine gDs (N := 2) rfl ?_); refine bEv ?hg (N := 2) ?hd (cs := #[.bool false, .int .i64 0, .int .i64 0, .int .i64 0]) (t := 59) ?hr ?_; (case hd => rfl); (case hg => rfl); (case hr => first | (go_simp; done) | (go_simp; rfl)); intro gb2 hg w3 hbox hb; have n4_ := AsZ.mk ((by rw [hg]; exact (zBl (by repeat (first | (with_reducible first | exact HB.out | apply aBl | apply pBd | apply dBl) | exact HB.out)))) : w.heap.size ≤ gb2); have n1_ := AsZ.mk (tBl (by repeat (first | (with_reducible first | exact HB.out | apply aBl | apply pBd | apply dBl) | exact HB.out)) hb); clear HB; have HB := n1_; clear n1_; have BK2 := AsZ.mk (hbox); have GE2 := n4_; clear n4_; clear hb hbox hg; have hcz2_0_w3 : w3.cell? ⟨gb2, 0, none⟩ = some (.bool false) := (bCe BK2.out 0).trans rfl; have hfz2_0_w3 := bFz BK2.out 0; have hcz2_1_w3 : w3.cell? ⟨gb2, 1, none⟩ = some (.int .i64 0) := (bCe BK2.out 1).trans rfl; have hfz2_1_w3 := bFz BK2.out 1; have hcz2_2_w3 : w3.cell? ⟨gb2, 2, none⟩ = some (.int .i64 0) := (bCe BK2.out 2).trans rfl; have hfz2_2_w3 := bFz BK2.out 2; have hcz2_3_w3 : w3.cell? ⟨gb2, 3, none⟩ = some (.int .i64 0) := (bCe BK2.out 3).trans rfl; have hfz2_3_w3 := bFz BK2.out 3))
          refine (text_Cut.calls a0 32 c1 c2 true _ h1).mono ?_
          rintro e w' ⟨rfl, ⟨nd, rfl⟩⟩
          dsimp only
          go_wp2_with (fail)
          refine (text_Cut.calls c2 47 d1 d2 true _ h2).mono ?_
          rintro e w' ⟨rfl, ⟨nd, rfl⟩⟩
          dsimp only
          go_wp2_with (fail)
          refine (text_Fold.calls c1 (⟨#[98, 121, 116, 101, 115]⟩ : ByteArray) true _ h3).mono ?_; rintro e w4 ⟨rfl, hb⟩; have m2_ := AsZ.mk (bBl (g := gb2) (o := .cells #[.bool false, .int .i64 0, .int .i64 0, .int .i64 0] 59 (0, 0)) (by (with_reducible repeat first | apply bDn | apply bDr | apply bAl); exact BK2.out) hb); have n1_ := AsZ.mk (tBl (by repeat (first | (with_reducible first | exact HB.out | apply aBl | apply pBd | apply dBl | refine sBl ?_ GE2.out) | exact HB.out)) hb); clear BK2; have BK2 := m2_; clear m2_; clear HB; have HB := n1_; clear n1_; clear hb; have hcz2_0_w4 : w4.cell? ⟨gb2, 0, none⟩ = some (.bool false) := (bCe BK2.out 0).trans rfl; have hfz2_0_w4 := bFz BK2.out 0; have hcz2_1_w4 : w4.cell? ⟨gb2, 1, none⟩ = some (.int .i64 0) := (bCe BK2.out 1).trans rfl; have hfz2_1_w4 := bFz BK2.out 1; have hcz2_2_w4 : w4.cell? ⟨gb2, 2, none⟩ = some (.int .i64 0) := (bCe BK2.out 2).trans rfl; have hfz2_2_w4 := bFz BK2.out 2; have hcz2_3_w4 : w4.cell? ⟨gb2, 3, none⟩ = some (.int .i64 0) := (bCe BK2.out 3).trans rfl; have hfz2_3_w4 := bFz BK2.out 3; dsimp only
          go_wp2_with (first | ((with_reducible refine gDs (N := 41) rfl ?_); refine bEv ?hg (N := 41) ?hd (cs := #[.int .i64 0]) (t := 91) ?hr ?_; (case hd => rfl); (case hg => rfl); (case hr => first | (go_simp; done) | (go_simp; rfl)); intro gb41 hg w5 hbox hb; have n4_ := AsZ.mk ((by rw [hg]; exact (zBl (by repeat (first | (with_reducible first | exact HB.out | apply aBl | apply pBd | apply dBl | refine sBl ?_ GE2.out) | exact HB.out)))) : w.heap.size ≤ gb41); have NB2_41 := AsZ.mk ((by rw [hg]; exact Nat.ne_of_lt (bLt (g := gb2) (o := .cells #[.bool false, .int .i64 0, .int .i64 0, .int .i64 0] 59 (0, 0)) (by (with_reducible repeat first | apply bDn | apply bDr | apply bAl); exact BK2.out))) : gb2 ≠ gb41); have NB41_2 := AsZ.mk ((by rw [hg]; exact Nat.ne_of_gt (bLt (g := gb2) (o := .cells #[.bool false, .int .i64 0, .int .i64 0, .int .i64 0] 59 (0, 0)) (by (with_reducible repeat first | apply bDn | apply bDr | apply bAl); exact BK2.out))) : gb41 ≠ gb2); have hnb2_41 := NB2_41.out; have hnb41_2 := NB41_2.out; have m2_ := AsZ.mk (bBl (g := gb2) (o := .cells #[.bool false, .int .i64 0, .int .i64 0, .int .i64 0] 59 (0, 0)) (by (with_reducible repeat first | apply bDn | apply bDr | apply bAl); exact BK2.out) hb); have n1_ := AsZ.mk (tBl (by repeat (first | (with_reducible first | exact HB.out | apply aBl | apply pBd | apply dBl | refine sBl ?_ GE2.out) | exact HB.out)) hb); clear BK2; have BK2 := m2_; clear m2_; clear HB; have HB := n1_; clear n1_; have BK41 := AsZ.mk (hbox); have GE41 := n4_; clear n4_; clear hb hbox hg; have hcz2_0_w5 : w5.cell? ⟨gb2, 0, none⟩ = some (.bool false) := (bCe BK2.out 0).trans rfl; have hfz2_0_w5 := bFz BK2.out 0; have hcz2_1_w5 : w5.cell? ⟨gb2, 1, none⟩ = some (.int .i64 0) := (bCe BK2.out 1).trans rfl; have hfz2_1_w5 := bFz BK2.out 1; have hcz2_2_w5 : w5.cell? ⟨gb2, 2, none⟩ = some (.int .i64 0) := (bCe BK2.out 2).trans rfl; have hfz2_2_w5 := bFz BK2.out 2; have hcz2_3_w5 : w5.cell? ⟨gb2, 3, none⟩ = some (.int .i64 0) := (bCe BK2.out 3).trans rfl; have hfz2_3_w5 := bFz BK2.out 3; have hcz41_0_w5 : w5.cell? ⟨gb41, 0, none⟩ = some (.int .i64 0) := (bCe BK41.out 0).trans rfl; have hfz41_0_w5 := bFz BK41.out 0) | ((with_reducible refine gDs (N := 12) rfl ?_); refine bEv ?hg (N := 12) ?hd (cs := #[.bool false, .int .i64 0, .int .i64 0, .int .i64 0]) (t := 59) ?hr ?_; (case hd => rfl); (case hg => rfl); (case hr => first | (go_simp; done) | (go_simp; rfl)); intro gb12 hg w6 hbox hb; have n4_ := AsZ.mk ((by rw [hg]; exact (zBl (by repeat (first | (with_reducible first | exact HB.out | apply aBl | apply pBd | apply dBl | refine sBl ?_ GE2.out | refine sBl ?_ GE41.out) | exact HB.out)))) : w.heap.size ≤ gb12); have NB2_12 := AsZ.mk ((by rw [hg]; exact Nat.ne_of_lt (bLt (g := gb2) (o := .cells #[.bool false, .int .i64 0, .int .i64 0, .int .i64 0] 59 (0, 0)) (by (with_reducible repeat first | apply bDn | apply bDr | apply bAl); exact BK2.out))) : gb2 ≠ gb12); have NB12_2 := AsZ.mk ((by rw [hg]; exact Nat.ne_of_gt (bLt (g := gb2) (o := .cells #[.bool false, .int .i64 0, .int .i64 0, .int .i64 0] 59 (0, 0)) (by (with_reducible repeat first | apply bDn | apply bDr | apply bAl); exact BK2.out))) : gb12 ≠ gb2); have hnb2_12 := NB2_12.out; have hnb12_2 := NB12_2.out; have NB41_12 := AsZ.mk ((by rw [hg]; exact Nat.ne_of_lt (bLt (g := gb41) (o := .cells #[.int .i64 0] 91 (0, 0)) (by (with_reducible repeat first | apply bDn | apply bDr | apply bAl); exact BK41.out))) : gb41 ≠ gb12); have NB12_41 := AsZ.mk ((by rw [hg]; exact Nat.ne_of_gt (bLt (g := gb41) (o := .cells #[.int .i64 0] 91 (0, 0)) (by (with_reducible repeat first | apply bDn | apply bDr | apply bAl); exact BK41.out))) : gb12 ≠ gb41); have hnb41_12 := NB41_12.out; have hnb12_41 := NB12_41.out; have m2_ := AsZ.mk (bBl (g := gb2) (o := .cells #[.bool false, .int .i64 0, .int .i64 0, .int .i64 0] 59 (0, 0)) (by (with_reducible repeat first | apply bDn | apply bDr | apply bAl); exact BK2.out) hb); have m41_ := AsZ.mk (bBl (g := gb41) (o := .cells #[.int .i64 0] 91 (0, 0)) (by (with_reducible repeat first | apply bDn | apply bDr | apply bAl); exact BK41.out) hb); have n1_ := AsZ.mk (tBl (by repeat (first | (with_reducible first | exact HB.out | apply aBl | apply pBd | apply dBl | refine sBl ?_ GE2.out | refine sBl ?_ GE41.out) | exact HB.out)) hb); clear BK2; have BK2 := m2_; clear m2_; clear BK41; have BK41 := m41_; clear m41_; clear HB; have HB := n1_; clear n1_; have BK12 := AsZ.mk (hbox); have GE12 := n4_; clear n4_; clear hb hbox hg; have hcz2_0_w6 : w6.cell? ⟨gb2, 0, none⟩ = some (.bool false) := (bCe BK2.out 0).trans rfl; have hfz2_0_w6 := bFz BK2.out 0; have hcz2_1_w6 : w6.cell? ⟨gb2, 1, none⟩ = some (.int .i64 0) := (bCe BK2.out 1).trans rfl; have hfz2_1_w6 := bFz BK2.out 1; have hcz2_2_w6 : w6.cell? ⟨gb2, 2, none⟩ = some (.int .i64 0) := (bCe BK2.out 2).trans rfl; have hfz2_2_w6 := bFz BK2.out 2; have hcz2_3_w6 : w6.cell? ⟨gb2, 3, none⟩ = some (.int .i64 0) := (bCe BK2.out 3).trans rfl; have hfz2_3_w6 := bFz BK2.out 3; have hcz41_0_w6 : w6.cell? ⟨gb41, 0, none⟩ = some (.int .i64 0) := (bCe BK41.out 0).trans rfl; have hfz41_0_w6 := bFz BK41.out 0; have hcz12_0_w6 : w6.cell? ⟨gb12, 0, none⟩ = some (.bool false) := (bCe BK12.out 0).trans rfl; have hfz12_0_w6 := bFz BK12.out 0; have hcz12_1_w6 : w6.cell? ⟨gb12, 1, none⟩ = some (.int .i64 0) := (bCe BK12.out 1).trans rfl; have hfz12_1_w6 := bFz BK12.out 1; have hcz12_2_w6 : w6.cell? ⟨gb12, 2, none⟩ = some (.int .i64 0) := (bCe BK12.out 2).trans rfl; have hfz12_2_w6 := bFz BK12.out 2; have hcz12_3_w6 : w6.cell? ⟨gb12, 3, none⟩ = some (.int .i64 0) := (bCe BK12.out 3).trans rfl; have hfz12_3_w6 := bFz BK12.out 3))
          refine (text_Cut.calls d1 45 g1 g2 g3 _ h4).mono ?_
          rintro e w' ⟨rfl, ⟨nd, rfl⟩⟩
          dsimp only
          replace h := h.out
          cases g3 with
          | false =>
            rw [if_neg (by decide)] at h
            simp only [Option.some.injEq, Prod.mk.injEq] at h
            obtain ⟨rfl, rfl, rfl, rfl, rfl⟩ := h
            go_wp2_with (fail)
            refine bodyPost_ret (results_ct rfl _ _ gb2 59 #[.bool false, .int .i64 0, .int .i64 0, .int .i64 0] (0, 0) _ rfl (by (with_reducible repeat first | apply bDn | apply bDr | apply bAl); refine crange_put4 (.bool false) (.int .i64 0) (.int .i64 0) (.int .i64 0) ?_; (with_reducible repeat first | apply bDn | apply bDr | apply bAl); refine crange_far4 ?_ NB2_12.out; (with_reducible repeat first | apply bDn | apply bDr | apply bAl); exact BK2.out) Try.underlying59 rfl (by kernel_rfl)) rfl ?_
            exact ⟨by first | rfl | (simp; done) | (simp [*]; done), by repeat (first | (with_reducible first | exact HB.out | apply aBl | apply pBd | apply dBl | refine sBl ?_ GE2.out | refine sBl ?_ GE41.out | refine sBl ?_ GE12.out) | exact HB.out)⟩
          | true =>
            rw [if_pos rfl] at h
            replace h := Option.bind_eq_some_iff.mp h
            obtain ⟨⟨n1, b1⟩, h5, h⟩ := h
            dsimp only at h5 h
            replace h := Option.bind_eq_some_iff.mp h
            obtain ⟨⟨n2, b2⟩, h6, h⟩ := h
            dsimp only at h6 h
            replace h := AsZ.mk h
            go_wp2_with (fail)
            refine (crNum.calls k gb41 0 g1 n1 b1 w _ ⟨(by (with_reducible repeat first | apply bDn | apply bDr | apply bAl); refine bFr ?_ NB41_12.out _; (with_reducible repeat first | apply bDn | apply bDr | apply bAl); refine crange_far4 ?_ NB41_12.out; (with_reducible repeat first | apply bDn | apply bDr | apply bAl); exact BK41.out), GE41.out⟩ (by repeat (first | (with_reducible first | exact HB.out | apply aBl | apply pBd | apply dBl | refine sBl ?_ GE2.out | refine sBl ?_ GE41.out | refine sBl ?_ GE12.out) | exact HB.out)) h5).mono ?_
            rintro e w7 ⟨rfl, hI, hB2, hK⟩; have m2_ := AsZ.mk (hK.blk (o := .cells #[.bool false, .int .i64 0, .int .i64 0, .int .i64 0] 59 (0, 0)) (by (with_reducible repeat first | apply bDn | apply bDr | apply bAl); refine bFr ?_ NB2_12.out _; (with_reducible repeat first | apply bDn | apply bDr | apply bAl); refine crange_far4 ?_ NB2_12.out; (with_reducible repeat first | apply bDn | apply bDr | apply bAl); exact BK2.out) NB2_41.out (by simp)); have m12_ := AsZ.mk (hK.blk (o := .cells #[.bool true, .int .i64 0, .int .i64 0, .int .i64 (-1)] 59 (0, 0)) (by (with_reducible repeat first | apply bDn | apply bDr | apply bAl); refine bPu (cs := #[.bool false, .int .i64 0, .int .i64 0, .int .i64 (-1)]) ?_ 0 _ rfl; (with_reducible repeat first | apply bDn | apply bDr | apply bAl); refine crange_put4 (.bool false) (.int .i64 0) (.int .i64 0) (.int .i64 0) ?_; (with_reducible repeat first | apply bDn | apply bDr | apply bAl); exact BK12.out) NB12_41.out (by simp)); clear BK2; have BK2 := m2_; clear m2_; clear BK12; have BK12 := m12_; clear m12_; clear BK41; have BK41 := AsZ.mk hI.1; clear HB; have HB := AsZ.mk hB2; clear hI hB2 hK; have hcz2_0_w7 : w7.cell? ⟨gb2, 0, none⟩ = some (.bool false) := (bCe BK2.out 0).trans rfl; have hfz2_0_w7 := bFz BK2.out 0; have hcz2_1_w7 : w7.cell? ⟨gb2, 1, none⟩ = some (.int .i64 0) := (bCe BK2.out 1).trans rfl; have hfz2_1_w7 := bFz BK2.out 1; have hcz2_2_w7 : w7.cell? ⟨gb2, 2, none⟩ = some (.int .i64 0) := (bCe BK2.out 2).trans rfl; have hfz2_2_w7 := bFz BK2.out 2; have hcz2_3_w7 : w7.cell? ⟨gb2, 3, none⟩ = some (.int .i64 0) := (bCe BK2.out 3).trans rfl; have hfz2_3_w7 := bFz BK2.out 3; have hcz41_0_w7 : w7.cell? ⟨gb41, 0, none⟩ = some (.int .i64 b1) := (bCe BK41.out 0).trans rfl; have hfz41_0_w7 := bFz BK41.out 0; have hcz12_0_w7 : w7.cell? ⟨gb12, 0, none⟩ = some (.bool true) := (bCe BK12.out 0).trans rfl; have hfz12_0_w7 := bFz BK12.out 0; have hcz12_1_w7 : w7.cell? ⟨gb12, 1, none⟩ = some (.int .i64 0) := (bCe BK12.out 1).trans rfl; have hfz12_1_w7 := bFz BK12.out 1; have hcz12_2_w7 : w7.cell? ⟨gb12, 2, none⟩ = some (.int .i64 0) := (bCe BK12.out 2).trans rfl; have hfz12_2_w7 := bFz BK12.out 2; have hcz12_3_w7 : w7.cell? ⟨gb12, 3, none⟩ = some (.int .i64 (-1)) := (bCe BK12.out 3).trans rfl; have hfz12_3_w7 := bFz BK12.out 3; dsimp only
            go_wp2_with (fail)
            refine (crNum.calls k gb41 b1 g2 n2 b2 w _ ⟨(by (with_reducible repeat first | apply bDn | apply bDr | apply bAl); refine bFr ?_ NB41_12.out _; (with_reducible repeat first | apply bDn | apply bDr | apply bAl); exact BK41.out), GE41.out⟩ (by repeat (first | (with_reducible first | exact HB.out | apply aBl | apply pBd | apply dBl | refine sBl ?_ GE2.out | refine sBl ?_ GE41.out | refine sBl ?_ GE12.out) | exact HB.out)) h6).mono ?_
            rintro e w8 ⟨rfl, hI, hB2, hK⟩; have m2_ := AsZ.mk (hK.blk (o := .cells #[.bool false, .int .i64 0, .int .i64 0, .int .i64 0] 59 (0, 0)) (by (with_reducible repeat first | apply bDn | apply bDr | apply bAl); refine bFr ?_ NB2_12.out _; (with_reducible repeat first | apply bDn | apply bDr | apply bAl); exact BK2.out) NB2_41.out (by simp)); have m12_ := AsZ.mk (hK.blk (o := .cells #[.bool true, .int .i64 n1, .int .i64 0, .int .i64 (-1)] 59 (0, 0)) (by (with_reducible repeat first | apply bDn | apply bDr | apply bAl); refine bPu (cs := #[.bool true, .int .i64 0, .int .i64 0, .int .i64 (-1)]) ?_ 1 _ rfl; (with_reducible repeat first | apply bDn | apply bDr | apply bAl); exact BK12.out) NB12_41.out (by simp)); clear BK2; have BK2 := m2_; clear m2_; clear BK12; have BK12 := m12_; clear m12_; clear BK41; have BK41 := AsZ.mk hI.1; clear HB; have HB := AsZ.mk hB2; clear hI hB2 hK; have hcz2_0_w8 : w8.cell? ⟨gb2, 0, none⟩ = some (.bool false) := (bCe BK2.out 0).trans rfl; have hfz2_0_w8 := bFz BK2.out 0; have hcz2_1_w8 : w8.cell? ⟨gb2, 1, none⟩ = some (.int .i64 0) := (bCe BK2.out 1).trans rfl; have hfz2_1_w8 := bFz BK2.out 1; have hcz2_2_w8 : w8.cell? ⟨gb2, 2, none⟩ = some (.int .i64 0) := (bCe BK2.out 2).trans rfl; have hfz2_2_w8 := bFz BK2.out 2; have hcz2_3_w8 : w8.cell? ⟨gb2, 3, none⟩ = some (.int .i64 0) := (bCe BK2.out 3).trans rfl; have hfz2_3_w8 := bFz BK2.out 3; have hcz41_0_w8 : w8.cell? ⟨gb41, 0, none⟩ = some (.int .i64 b2) := (bCe BK41.out 0).trans rfl; have hfz41_0_w8 := bFz BK41.out 0; have hcz12_0_w8 : w8.cell? ⟨gb12, 0, none⟩ = some (.bool true) := (bCe BK12.out 0).trans rfl; have hfz12_0_w8 := bFz BK12.out 0; have hcz12_1_w8 : w8.cell? ⟨gb12, 1, none⟩ = some (.int .i64 n1) := (bCe BK12.out 1).trans rfl; have hfz12_1_w8 := bFz BK12.out 1; have hcz12_2_w8 : w8.cell? ⟨gb12, 2, none⟩ = some (.int .i64 0) := (bCe BK12.out 2).trans rfl; have hfz12_2_w8 := bFz BK12.out 2; have hcz12_3_w8 : w8.cell? ⟨gb12, 3, none⟩ = some (.int .i64 (-1)) := (bCe BK12.out 3).trans rfl; have hfz12_3_w8 := bFz BK12.out 3; dsimp only
            replace h := h.out
            unfold crange_Parse.t at h
            by_cases hT : d2.toList = ([42] : List UInt8)
            · rw [if_pos hT] at h
              have hT0 : (d2.toList == ([42] : List UInt8)) = true := beq_iff_eq.mpr hT
              have hT1 : (d2.toList != ([42] : List UInt8)) = false := bne_eq_false_iff_eq.mpr hT
              unfold crange_Parse.e at h
              by_cases hz : b2 = 0
              · subst hz
                rw [if_pos rfl] at h
                replace h := Option.bind_eq_some_iff.mp h
                obtain ⟨rr, hR, h⟩ := h
                replace h := AsZ.mk h
                go_wp2_with (fail)
                refine (crange_Right.calls k true n1 (wrap64 (n2 + 1)) (-1) rr _ hR).mono ?_; rintro e w9 ⟨rfl, hb⟩; have m2_ := AsZ.mk (bBl (g := gb2) (o := .cells #[.bool false, .int .i64 0, .int .i64 0, .int .i64 0] 59 (0, 0)) (by (with_reducible repeat first | apply bDn | apply bDr | apply bAl); refine bFr ?_ NB2_12.out _; (with_reducible repeat first | apply bDn | apply bDr | apply bAl); exact BK2.out) hb); have m41_ := AsZ.mk (bBl (g := gb41) (o := .cells #[.int .i64 0] 91 (0, 0)) (by (with_reducible repeat first | apply bDn | apply bDr | apply bAl); refine bFr ?_ NB41_12.out _; (with_reducible repeat first | apply bDn | apply bDr | apply bAl); exact BK41.out) hb); have m12_ := AsZ.mk (bBl (g := gb12) (o := .cells #[.bool true, .int .i64 n1, .int .i64 (wrap64 (n2 + 1)), .int .i64 (-1)] 59 (0, 0)) (by (with_reducible repeat first | apply bDn | apply bDr | apply bAl); refine bPu (cs := #[.bool true, .int .i64 n1, .int .i64 0, .int .i64 (-1)]) ?_ 2 _ rfl; (with_reducible repeat first | apply bDn | apply bDr | apply bAl); exact BK12.out) hb); have n1_ := AsZ.mk (tBl (by repeat (first | (with_reducible first | exact HB.out | apply aBl | apply pBd | apply dBl | refine sBl ?_ GE2.out | refine sBl ?_ GE41.out | refine sBl ?_ GE12.out) | exact HB.out)) hb); clear BK2; have BK2 := m2_; clear m2_; clear BK41; have BK41 := m41_; clear m41_; clear BK12; have BK12 := m12_; clear m12_; clear HB; have HB := n1_; clear n1_; clear hb; have hcz2_0_w9 : w9.cell? ⟨gb2, 0, none⟩ = some (.bool false) := (bCe BK2.out 0).trans rfl; have hfz2_0_w9 := bFz BK2.out 0; have hcz2_1_w9 : w9.cell? ⟨gb2, 1, none⟩ = some (.int .i64 0) := (bCe BK2.out 1).trans rfl; have hfz2_1_w9 := bFz BK2.out 1; have hcz2_2_w9 : w9.cell? ⟨gb2, 2, none⟩ = some (.int .i64 0) := (bCe BK2.out 2).trans rfl; have hfz2_2_w9 := bFz BK2.out 2; have hcz2_3_w9 : w9.cell? ⟨gb2, 3, none⟩ = some (.int .i64 0) := (bCe BK2.out 3).trans rfl; have hfz2_3_w9 := bFz BK2.out 3; have hcz41_0_w9 : w9.cell? ⟨gb41, 0, none⟩ = some (.int .i64 0) := (bCe BK41.out 0).trans rfl; have hfz41_0_w9 := bFz BK41.out 0; have hcz12_0_w9 : w9.cell? ⟨gb12, 0, none⟩ = some (.bool true) := (bCe BK12.out 0).trans rfl; have hfz12_0_w9 := bFz BK12.out 0; have hcz12_1_w9 : w9.cell? ⟨gb12, 1, none⟩ = some (.int .i64 n1) := (bCe BK12.out 1).trans rfl; have hfz12_1_w9 := bFz BK12.out 1; have hcz12_2_w9 : w9.cell? ⟨gb12, 2, none⟩ = some (.int .i64 (wrap64 (n2 + 1))) := (bCe BK12.out 2).trans rfl; have hfz12_2_w9 := bFz BK12.out 2; have hcz12_3_w9 : w9.cell? ⟨gb12, 3, none⟩ = some (.int .i64 (-1)) := (bCe BK12.out 3).trans rfl; have hfz12_3_w9 := bFz BK12.out 3; dsimp only
                replace h := h.out
                cases rr with
                | false =>
                  rw [if_neg (by decide)] at h
                  simp only [Option.some.injEq, Prod.mk.injEq] at h
                  obtain ⟨rfl, rfl, rfl, rfl, rfl⟩ := h
                  go_wp2_with (fail)
                  refine bodyPost_ret (results_ct rfl _ _ gb2 59 #[.bool false, .int .i64 0, .int .i64 0, .int .i64 0] (0, 0) _ rfl (by (with_reducible repeat first | apply bDn | apply bDr | apply bAl); refine crange_put4 (.bool false) (.int .i64 0) (.int .i64 0) (.int .i64 0) ?_; (with_reducible repeat first | apply bDn | apply bDr | apply bAl); exact BK2.out) Try.underlying59 rfl (by kernel_rfl)) rfl ?_
                  exact ⟨by first | rfl | (simp; done) | (simp [*]; done), by repeat (first | (with_reducible first | exact HB.out | apply aBl | apply pBd | apply dBl | refine sBl ?_ GE2.out | refine sBl ?_ GE41.out | refine sBl ?_ GE12.out) | exact HB.out)⟩
                | true =>
                  rw [if_pos rfl] at h
                  simp only [Option.some.injEq, Prod.mk.injEq] at h
                  obtain ⟨rfl, rfl, rfl, rfl, rfl⟩ := h
                  go_wp2_with (fail)
                  refine bodyPost_ret (results_ct rfl _ _ gb2 59 #[.bool true, .int .i64 n1, .int .i64 (wrap64 (n2 + 1)), .int .i64 (-1)] (0, 0) _ rfl (by (with_reducible repeat first | apply bDn | apply bDr | apply bAl); refine crange_put4 (.bool false) (.int .i64 0) (.int .i64 0) (.int .i64 0) ?_; (with_reducible repeat first | apply bDn | apply bDr | apply bAl); exact BK2.out) Try.underlying59 rfl (by kernel_rfl)) rfl ?_
                  exact ⟨by first | rfl | (simp; done) | (simp [*]; done), by repeat (first | (with_reducible first | exact HB.out | apply aBl | apply pBd | apply dBl | refine sBl ?_ GE2.out | refine sBl ?_ GE41.out | refine sBl ?_ GE12.out) | exact HB.out)⟩
              · rw [if_neg hz] at h
                simp only [Option.some.injEq, Prod.mk.injEq] at h
                obtain ⟨rfl, rfl, rfl, rfl, rfl⟩ := h
                have hz0 : (b2 == 0) = false := beq_eq_false_iff_ne.mpr hz
                have hz1 : (b2 != 0) = true := bne_iff_ne.mpr hz
                have hz2 : decide (b2 = 0) = false := decide_eq_false hz
                go_wp2_with (fail)
                go_region
                go_wp2_with (fail)
                refine bodyPost_ret (results_ct rfl _ _ gb2 59 #[.bool false, .int .i64 0, .int .i64 0, .int .i64 0] (0, 0) _ rfl (by (with_reducible repeat first | apply bDn | apply bDr | apply bAl); refine crange_put4 (.bool false) (.int .i64 0) (.int .i64 0) (.int .i64 0) ?_; (with_reducible repeat first | apply bDn | apply bDr | apply bAl); refine bFr ?_ NB2_12.out _; (with_reducible repeat first | apply bDn | apply bDr | apply bAl); exact BK2.out) Try.underlying59 rfl (by kernel_rfl)) rfl ?_
                exact ⟨by first | rfl | (simp; done) | (simp [*]; done), by repeat (first | (with_reducible first | exact HB.out | apply aBl | apply pBd | apply dBl | refine sBl ?_ GE2.out | refine sBl ?_ GE41.out | refine sBl ?_ GE12.out) | exact HB.out)⟩
            · rw [if_neg hT] at h
              have hT0 : (d2.toList == ([42] : List UInt8)) = false := beq_eq_false_iff_ne.mpr hT
              have hT1 : (d2.toList != ([42] : List UInt8)) = true := bne_iff_ne.mpr hT
              replace h := Option.bind_eq_some_iff.mp h
              obtain ⟨⟨n3, b3⟩, h7, h⟩ := h
              dsimp only at h7 h
              replace h := AsZ.mk h
              go_wp2_with (fail)
              refine (crNum.calls k gb41 b2 d2 n3 b3 w _ ⟨(by (with_reducible repeat first | apply bDn | apply bDr | apply bAl); refine bFr ?_ NB41_12.out _; (with_reducible repeat first | apply bDn | apply bDr | apply bAl); exact BK41.out), GE41.out⟩ (by repeat (first | (with_reducible first | exact HB.out | apply aBl | apply pBd | apply dBl | refine sBl ?_ GE2.out | refine sBl ?_ GE41.out | refine sBl ?_ GE12.out) | exact HB.out)) h7).mono ?_
              rintro e w9 ⟨rfl, hI, hB2, hK⟩; have m2_ := AsZ.mk (hK.blk (o := .cells #[.bool false, .int .i64 0, .int .i64 0, .int .i64 0] 59 (0, 0)) (by (with_reducible repeat first | apply bDn | apply bDr | apply bAl); refine bFr ?_ NB2_12.out _; (with_reducible repeat first | apply bDn | apply bDr | apply bAl); exact BK2.out) NB2_41.out (by simp)); have m12_ := AsZ.mk (hK.blk (o := .cells #[.bool true, .int .i64 n1, .int .i64 (wrap64 (n2 + 1)), .int .i64 (-1)] 59 (0, 0)) (by (with_reducible repeat first | apply bDn | apply bDr | apply bAl); refine bPu (cs := #[.bool true, .int .i64 n1, .int .i64 0, .int .i64 (-1)]) ?_ 2 _ rfl; (with_reducible repeat first | apply bDn | apply bDr | apply bAl); exact BK12.out) NB12_41.out (by simp)); clear BK2; have BK2 := m2_; clear m2_; clear BK12; have BK12 := m12_; clear m12_; clear BK41; have BK41 := AsZ.mk hI.1; clear HB; have HB := AsZ.mk hB2; clear hI hB2 hK; have hcz2_0_w9 : w9.cell? ⟨gb2, 0, none⟩ = some (.bool false) := (bCe BK2.out 0).trans rfl; have hfz2_0_w9 := bFz BK2.out 0; have hcz2_1_w9 : w9.cell? ⟨gb2, 1, none⟩ = some (.int .i64 0) := (bCe BK2.out 1).trans rfl; have hfz2_1_w9 := bFz BK2.out 1; have hcz2_2_w9 : w9.cell? ⟨gb2, 2, none⟩ = some (.int .i64 0) := (bCe BK2.out 2).trans rfl; have hfz2_2_w9 := bFz BK2.out 2; have hcz2_3_w9 : w9.cell? ⟨gb2, 3, none⟩ = some (.int .i64 0) := (bCe BK2.out 3).trans rfl; have hfz2_3_w9 := bFz BK2.out 3; have hcz41_0_w9 : w9.cell? ⟨gb41, 0, none⟩ = some (.int .i64 b3) := (bCe BK41.out 0).trans rfl; have hfz41_0_w9 := bFz BK41.out 0; have hcz12_0_w9 : w9.cell? ⟨gb12, 0, none⟩ = some (.bool true) := (bCe BK12.out 0).trans rfl; have hfz12_0_w9 := bFz BK12.out 0; have hcz12_1_w9 : w9.cell? ⟨gb12, 1, none⟩ = some (.int .i64 n1) := (bCe BK12.out 1).trans rfl; have hfz12_1_w9 := bFz BK12.out 1; have hcz12_2_w9 : w9.cell? ⟨gb12, 2, none⟩ = some (.int .i64 (wrap64 (n2 + 1))) := (bCe BK12.out 2).trans rfl; have hfz12_2_w9 := bFz BK12.out 2; have hcz12_3_w9 : w9.cell? ⟨gb12, 3, none⟩ = some (.int .i64 (-1)) := (bCe BK12.out 3).trans rfl; have hfz12_3_w9 := bFz BK12.out 3; dsimp only
              replace h := h.out
              unfold crange_Parse.e at h
              by_cases hz : b3 = 0
              · subst hz
                rw [if_pos rfl] at h
                replace h := Option.bind_eq_some_iff.mp h
                obtain ⟨rr, hR, h⟩ := h
                replace h := AsZ.mk h
                go_wp2_with (fail)
                refine (crange_Right.calls k true n1 (wrap64 (n2 + 1)) n3 rr _ hR).mono ?_; rintro e w10 ⟨rfl, hb⟩; have m2_ := AsZ.mk (bBl (g := gb2) (o := .cells #[.bool false, .int .i64 0, .int .i64 0, .int .i64 0] 59 (0, 0)) (by (with_reducible repeat first | apply bDn | apply bDr | apply bAl); refine bFr ?_ NB2_12.out _; (with_reducible repeat first | apply bDn | apply bDr | apply bAl); exact BK2.out) hb); have m41_ := AsZ.mk (bBl (g := gb41) (o := .cells #[.int .i64 0] 91 (0, 0)) (by (with_reducible repeat first | apply bDn | apply bDr | apply bAl); refine bFr ?_ NB41_12.out _; (with_reducible repeat first | apply bDn | apply bDr | apply bAl); exact BK41.out) hb); have m12_ := AsZ.mk (bBl (g := gb12) (o := .cells #[.bool true, .int .i64 n1, .int .i64 (wrap64 (n2 + 1)), .int .i64 n3] 59 (0, 0)) (by (with_reducible repeat first | apply bDn | apply bDr | apply bAl); refine bPu (cs := #[.bool true, .int .i64 n1, .int .i64 (wrap64 (n2 + 1)), .int .i64 (-1)]) ?_ 3 _ rfl; (with_reducible repeat first | apply bDn | apply bDr | apply bAl); exact BK12.out) hb); have n1_ := AsZ.mk (tBl (by repeat (first | (with_reducible first | exact HB.out | apply aBl | apply pBd | apply dBl | refine sBl ?_ GE2.out | refine sBl ?_ GE41.out | refine sBl ?_ GE12.out) | exact HB.out)) hb); clear BK2; have BK2 := m2_; clear m2_; clear BK41; have BK41 := m41_; clear m41_; clear BK12; have BK12 := m12_; clear m12_; clear HB; have HB := n1_; clear n1_; clear hb; have hcz2_0_w10 : w10.cell? ⟨gb2, 0, none⟩ = some (.bool false) := (bCe BK2.out 0).trans rfl; have hfz2_0_w10 := bFz BK2.out 0; have hcz2_1_w10 : w10.cell? ⟨gb2, 1, none⟩ = some (.int .i64 0) := (bCe BK2.out 1).trans rfl; have hfz2_1_w10 := bFz BK2.out 1; have hcz2_2_w10 : w10.cell? ⟨gb2, 2, none⟩ = some (.int .i64 0) := (bCe BK2.out 2).trans rfl; have hfz2_2_w10 := bFz BK2.out 2; have hcz2_3_w10 : w10.cell? ⟨gb2, 3, none⟩ = some (.int .i64 0) := (bCe BK2.out 3).trans rfl; have hfz2_3_w10 := bFz BK2.out 3; have hcz41_0_w10 : w10.cell? ⟨gb41, 0, none⟩ = some (.int .i64 0) := (bCe BK41.out 0).trans rfl; have hfz41_0_w10 := bFz BK41.out 0; have hcz12_0_w10 : w10.cell? ⟨gb12, 0, none⟩ = some (.bool true) := (bCe BK12.out 0).trans rfl; have hfz12_0_w10 := bFz BK12.out 0; have hcz12_1_w10 : w10.cell? ⟨gb12, 1, none⟩ = some (.int .i64 n1) := (bCe BK12.out 1).trans rfl; have hfz12_1_w10 := bFz BK12.out 1; have hcz12_2_w10 : w10.cell? ⟨gb12, 2, none⟩ = some (.int .i64 (wrap64 (n2 + 1))) := (bCe BK12.out 2).trans rfl; have hfz12_2_w10 := bFz BK12.out 2; have hcz12_3_w10 : w10.cell? ⟨gb12, 3, none⟩ = some (.int .i64 n3) := (bCe BK12.out 3).trans rfl; have hfz12_3_w10 := bFz BK12.out 3; dsimp only
                replace h := h.out
                cases rr with
                | false =>
                  rw [if_neg (by decide)] at h
                  simp only [Option.some.injEq, Prod.mk.injEq] at h
                  obtain ⟨rfl, rfl, rfl, rfl, rfl⟩ := h
                  go_wp2_with (fail)
                  refine bodyPost_ret (results_ct rfl _ _ gb2 59 #[.bool false, .int .i64 0, .int .i64 0, .int .i64 0] (0, 0) _ rfl (by (with_reducible repeat first | apply bDn | apply bDr | apply bAl); refine crange_put4 (.bool false) (.int .i64 0) (.int .i64 0) (.int .i64 0) ?_; (with_reducible repeat first | apply bDn | apply bDr | apply bAl); exact BK2.out) Try.underlying59 rfl (by kernel_rfl)) rfl ?_
                  exact ⟨by first | rfl | (simp; done) | (simp [*]; done), by repeat (first | (with_reducible first | exact HB.out | apply aBl | apply pBd | apply dBl | refine sBl ?_ GE2.out | refine sBl ?_ GE41.out | refine sBl ?_ GE12.out) | exact HB.out)⟩
                | true =>
                  rw [if_pos rfl] at h
                  simp only [Option.some.injEq, Prod.mk.injEq] at h
                  obtain ⟨rfl, rfl, rfl, rfl, rfl⟩ := h
                  go_wp2_with (fail)
                  refine bodyPost_ret (results_ct rfl _ _ gb2 59 #[.bool true, .int .i64 n1, .int .i64 (wrap64 (n2 + 1)), .int .i64 n3] (0, 0) _ rfl (by (with_reducible repeat first | apply bDn | apply bDr | apply bAl); refine crange_put4 (.bool false) (.int .i64 0) (.int .i64 0) (.int .i64 0) ?_; (with_reducible repeat first | apply bDn | apply bDr | apply bAl); exact BK2.out) Try.underlying59 rfl (by kernel_rfl)) rfl ?_
                  exact ⟨by first | rfl | (simp; done) | (simp [*]; done), by repeat (first | (with_reducible first | exact HB.out | apply aBl | apply pBd | apply dBl | refine sBl ?_ GE2.out | refine sBl ?_ GE41.out | refine sBl ?_ GE12.out) | exact HB.out)⟩
              · rw [if_neg hz] at h
                simp only [Option.some.injEq, Prod.mk.injEq] at h
                obtain ⟨rfl, rfl, rfl, rfl, rfl⟩ := h
                have hz0 : (b3 == 0) = false := beq_eq_false_iff_ne.mpr hz
                have hz1 : (b3 != 0) = true := bne_iff_ne.mpr hz
                have hz2 : decide (b3 = 0) = false := decide_eq_false hz
                go_wp2_with (fail)
                go_region
                go_wp2_with (fail)
                refine bodyPost_ret (results_ct rfl _ _ gb2 59 #[.bool false, .int .i64 0, .int .i64 0, .int .i64 0] (0, 0) _ rfl (by (with_reducible repeat first | apply bDn | apply bDr | apply bAl); refine crange_put4 (.bool false) (.int .i64 0) (.int .i64 0) (.int .i64 0) ?_; (with_reducible repeat first | apply bDn | apply bDr | apply bAl); refine bFr ?_ NB2_12.out _; (with_reducible repeat first | apply bDn | apply bDr | apply bAl); exact BK2.out) Try.underlying59 rfl (by kernel_rfl)) rfl ?_
                exact ⟨by first | rfl | (simp; done) | (simp [*]; done), by repeat (first | (with_reducible first | exact HB.out | apply aBl | apply pBd | apply dBl | refine sBl ?_ GE2.out | refine sBl ?_ GE41.out | refine sBl ?_ GE12.out) | exact HB.out)⟩
def reply_shifted.f (k : Nat) (a0 : ByteArray) : Option (ByteArray) := (crange_Parse.f k a0).bind fun bt136 => (if bt136.2.2.2.2 = 0 then (if bt136.1 = true then ((crange_Of.f k (wrap64 (bt136.2.1 + 1)) (wrap64 (bt136.2.2.1 + 1)) bt136.2.2.2.1).bind fun t142 => (some t142)) else (some a0)) else (some a0))
theorem reply_shifted.mono : ∀ a0 k, LeO (reply_shifted.f k a0) (reply_shifted.f (k + 1) a0) := by
  intro a0 k
  unfold reply_shifted.f
  repeat' first
      | (with_reducible exact crange_Of.mono _ _ _ _)
      | (with_reducible exact crange_Parse.mono _ _)
      | (with_reducible exact LeO.refl _)
      | (with_reducible exact LeO.none _)
      | (with_reducible refine LeO.ite ?_ ?_)
      | (with_reducible refine LeO.bind ?_ (fun _ => ?_))
      | exact crange_Of.mono _ _ _ _
      | exact crange_Parse.mono _ _
      | exact LeO.none _
      | refine LeO.ite ?_ ?_
      | refine LeO.bind ?_ (fun _ => ?_)
set_option maxHeartbeats 8000000 in
set_option maxRecDepth 100000 in
theorem reply_shifted.calls (k : Nat) (a0 : ByteArray) (r : ByteArray) (w : World) (h : reply_shifted.f k a0 = some r) :
    Calls Try.prog 47 #[.string a0] w fun e w' => e = .returned (.string r) ∧ Below w.heap.size w w' := by
  have hu59 := Try.underlying59
  have hu30 := Try.underlying30
  have HB := AsZ.mk (Below.refl w.heap.size w)
  have H : ((crange_Parse.f k a0).bind fun bt136 => (if bt136.2.2.2.2 = 0 then (if bt136.1 = true then ((crange_Of.f k (wrap64 (bt136.2.1 + 1)) (wrap64 (bt136.2.2.1 + 1)) bt136.2.2.2.1).bind fun t142 => (some t142)) else (some a0)) else (some a0))) = some r := h
  clear h
  replace H := Option.bind_eq_some_iff.mp H
  obtain ⟨⟨t136, t137, t138, t139, t140⟩, A20, H⟩ := H
  replace H : (if t140 = 0 then (if t136 = true then ((crange_Of.f k (wrap64 (t137 + 1)) (wrap64 (t138 + 1)) t139).bind fun t142 => (some t142)) else (some a0)) else (some a0)) = some r := H
  have A2 := AsZ.mk A20
  clear A20
  by_cases c3 : t140 = 0
  · rw [if_pos c3] at H
    have c3b0 : (t140 == 0) = true := beq_iff_eq.mpr c3
    have c3b1 : (t140 != 0) = false := bne_eq_false_iff_eq.mpr c3
    clear c3
    by_cases c4 : t136 = true
    · subst c4
      have H1 : ((crange_Of.f k (wrap64 (t137 + 1)) (wrap64 (t138 + 1)) t139).bind fun t142 => (some t142)) = some r := by rw [if_pos rfl] at H; exact H
      clear H
      have H := H1
      clear H1
      replace H := Option.bind_eq_some_iff.mp H
      obtain ⟨t142, A50, H⟩ := H
      replace H : (some t142) = some r := H
      have A5 := AsZ.mk A50
      clear A50
      obtain rfl := Option.some.inj H
      go_enter Try.func47, Try.ntmps47
      go_wp2_with (first | ((with_reducible refine gCa (f := 55) rfl ?_); refine gLl (some 7) rfl rfl Try.func55 (by kernel_rfl) rfl #[.string a0] rfl (by (try simp only [lsD, lsE, lsF]); first | done | rfl | (simp only [lsG, lsH]; rfl)) ?_; (with_reducible refine (crange_Parse.calls k a0 true t137 t138 t139 t140 _ A2.out).mono ?_); rintro e w6 ⟨rfl, hb⟩; refine ⟨_, rfl, ?_⟩; have n0_ := AsZ.mk (tBl (by repeat (first | (with_reducible first | exact HB.out | apply aBl | apply pBd | apply dBl) | exact HB.out)) hb); clear HB; have HB := n0_; clear n0_; (try clear hb); (try clear hb2); (try clear hk); (try clear hi)) | ((with_reducible refine gDs (N := 3) rfl ?_); refine bEv ?hg (N := 3) ?hd (cs := #[.bool false, .int .i64 0, .int .i64 0, .int .i64 0]) (t := 59) ?hr ?_; (case hd => rfl); (case hg => rfl); (case hr => first | (go_simp; done) | (go_simp; rfl)); intro gb141 hg w7 hbox hb; have n0_ := AsZ.mk (tBl (by repeat (first | (with_reducible first | exact HB.out | apply aBl | apply pBd | apply dBl) | exact HB.out)) hb); have n1_ := AsZ.mk (hbox); have n2_ := AsZ.mk ((by rw [hg]; exact (zBl (by repeat (first | (with_reducible first | exact HB.out | apply aBl | apply pBd | apply dBl) | exact HB.out))) : w.heap.size ≤ gb141)); have n3_ := AsZ.mk ((by rw [hg]; exact (zBl (by repeat (first | (with_reducible first | exact HB.out | apply aBl | apply pBd | apply dBl) | exact HB.out))) : w.heap.size ≤ gb141)); clear HB; have HB := n0_; have BK141 := n1_; have GW141 := n2_; have GE141 := n3_; clear n0_ n1_ n2_ n3_; clear hb hbox hg; obtain ⟨hcz8_0, hcz8_1, hcz8_2, hcz8_3⟩ := celN4 BK141.out; obtain ⟨hfz8_0, hfz8_1, hfz8_2, hfz8_3⟩ := fzN4 BK141.out) | ((with_reducible refine gCa (f := 44) rfl ?_); refine gLl (some 29) rfl rfl Try.func44 (by kernel_rfl) rfl #[.agg #[.int .i64 (wrap64 (t137 + 1)), .int .i64 (wrap64 (t138 + 1))], .int .i64 t139] rfl (by (try simp only [lsD, lsE, lsF]); first | done | rfl | (simp only [lsG, lsH]; rfl)) ?_; (with_reducible refine (crange_Of.calls k (wrap64 (t137 + 1)) (wrap64 (t138 + 1)) t139 t142 _ A5.out).mono ?_); rintro e w9 ⟨rfl, hb⟩; refine ⟨_, rfl, ?_⟩; have n0_ := AsZ.mk (bBl (g := gb141) (o := .cells #[.bool true, .int .i64 t137, .int .i64 t138, .int .i64 t139] 59 (0, 0)) (by (with_reducible repeat first | apply bDn | apply bDr | apply bAl); refine bPu (cs := #[.bool true, .int .i64 t137, .int .i64 t138, .int .i64 0]) ?_ 3 _ rfl; (with_reducible repeat first | apply bDn | apply bDr | apply bAl); refine bPu (cs := #[.bool true, .int .i64 t137, .int .i64 0, .int .i64 0]) ?_ 2 _ rfl; (with_reducible repeat first | apply bDn | apply bDr | apply bAl); refine bPu (cs := #[.bool true, .int .i64 0, .int .i64 0, .int .i64 0]) ?_ 1 _ rfl; (with_reducible repeat first | apply bDn | apply bDr | apply bAl); refine bPu (cs := #[.bool false, .int .i64 0, .int .i64 0, .int .i64 0]) ?_ 0 _ rfl; (with_reducible repeat first | apply bDn | apply bDr | apply bAl); exact BK141.out) hb); have n1_ := AsZ.mk (tBl (by repeat (first | (with_reducible first | exact HB.out | apply aBl | apply pBd | apply dBl | refine sBl ?_ GE141.out) | exact HB.out)) hb); clear BK141; clear HB; have BK141 := n0_; have HB := n1_; clear n0_ n1_; (try clear hb); (try clear hb2); (try clear hk); (try clear hi)))
      go_ret
      exact ⟨by first | rfl | exact nEm _ | exact eEm _ | (simp [eWn, eWs] <;> rfl) | (simp [*, eWn, eWs] <;> rfl), by repeat (first | (with_reducible first | exact HB.out | apply aBl | apply pBd | apply dBl | refine sBl ?_ GE141.out) | exact HB.out)⟩
    · replace c4 := Bool.eq_false_iff.mpr c4
      subst c4
      have H1 : (some a0) = some r := by rw [if_neg (show ¬ (false = true) by decide)] at H; exact H
      clear H
      have H := H1
      clear H1
      obtain rfl := Option.some.inj H
      go_enter Try.func47, Try.ntmps47
      go_wp2_with (first | ((with_reducible refine gCa (f := 55) rfl ?_); refine gLl (some 7) rfl rfl Try.func55 (by kernel_rfl) rfl #[.string a0] rfl (by (try simp only [lsD, lsE, lsF]); first | done | rfl | (simp only [lsG, lsH]; rfl)) ?_; (with_reducible refine (crange_Parse.calls k a0 false t137 t138 t139 t140 _ A2.out).mono ?_); rintro e w10 ⟨rfl, hb⟩; refine ⟨_, rfl, ?_⟩; have n0_ := AsZ.mk (tBl (by repeat (first | (with_reducible first | exact HB.out | apply aBl | apply pBd | apply dBl) | exact HB.out)) hb); clear HB; have HB := n0_; clear n0_; (try clear hb); (try clear hb2); (try clear hk); (try clear hi)) | ((with_reducible refine gDs (N := 3) rfl ?_); refine bEv ?hg (N := 3) ?hd (cs := #[.bool false, .int .i64 0, .int .i64 0, .int .i64 0]) (t := 59) ?hr ?_; (case hd => rfl); (case hg => rfl); (case hr => first | (go_simp; done) | (go_simp; rfl)); intro gb141 hg w11 hbox hb; have n0_ := AsZ.mk (tBl (by repeat (first | (with_reducible first | exact HB.out | apply aBl | apply pBd | apply dBl) | exact HB.out)) hb); have n1_ := AsZ.mk (hbox); have n2_ := AsZ.mk ((by rw [hg]; exact (zBl (by repeat (first | (with_reducible first | exact HB.out | apply aBl | apply pBd | apply dBl) | exact HB.out))) : w.heap.size ≤ gb141)); have n3_ := AsZ.mk ((by rw [hg]; exact (zBl (by repeat (first | (with_reducible first | exact HB.out | apply aBl | apply pBd | apply dBl) | exact HB.out))) : w.heap.size ≤ gb141)); clear HB; have HB := n0_; have BK141 := n1_; have GW141 := n2_; have GE141 := n3_; clear n0_ n1_ n2_ n3_; clear hb hbox hg; obtain ⟨hcz12_0, hcz12_1, hcz12_2, hcz12_3⟩ := celN4 BK141.out; obtain ⟨hfz12_0, hfz12_1, hfz12_2, hfz12_3⟩ := fzN4 BK141.out))
      go_ret
      exact ⟨by first | rfl | exact nEm _ | exact eEm _ | (simp [eWn, eWs] <;> rfl) | (simp [*, eWn, eWs] <;> rfl), by repeat (first | (with_reducible first | exact HB.out | apply aBl | apply pBd | apply dBl | refine sBl ?_ GE141.out) | exact HB.out)⟩
  · rw [if_neg c3] at H
    have c3b0 : (t140 == 0) = false := beq_eq_false_iff_ne.mpr c3
    have c3b1 : (t140 != 0) = true := bne_iff_ne.mpr c3
    obtain rfl := Option.some.inj H
    go_enter Try.func47, Try.ntmps47
    go_wp2_with (first | ((with_reducible refine gCa (f := 55) rfl ?_); refine gLl (some 7) rfl rfl Try.func55 (by kernel_rfl) rfl #[.string a0] rfl (by (try simp only [lsD, lsE, lsF]); first | done | rfl | (simp only [lsG, lsH]; rfl)) ?_; (with_reducible refine (crange_Parse.calls k a0 t136 t137 t138 t139 t140 _ A2.out).mono ?_); rintro e w13 ⟨rfl, hb⟩; refine ⟨_, rfl, ?_⟩; have n0_ := AsZ.mk (tBl (by repeat (first | (with_reducible first | exact HB.out | apply aBl | apply pBd | apply dBl) | exact HB.out)) hb); clear HB; have HB := n0_; clear n0_; (try clear hb); (try clear hb2); (try clear hk); (try clear hi)) | ((with_reducible refine gDs (N := 3) rfl ?_); refine bEv ?hg (N := 3) ?hd (cs := #[.bool false, .int .i64 0, .int .i64 0, .int .i64 0]) (t := 59) ?hr ?_; (case hd => rfl); (case hg => rfl); (case hr => first | (go_simp; done) | (go_simp; rfl)); intro gb141 hg w14 hbox hb; have n0_ := AsZ.mk (tBl (by repeat (first | (with_reducible first | exact HB.out | apply aBl | apply pBd | apply dBl) | exact HB.out)) hb); have n1_ := AsZ.mk (hbox); have n2_ := AsZ.mk ((by rw [hg]; exact (zBl (by repeat (first | (with_reducible first | exact HB.out | apply aBl | apply pBd | apply dBl) | exact HB.out))) : w.heap.size ≤ gb141)); have n3_ := AsZ.mk ((by rw [hg]; exact (zBl (by repeat (first | (with_reducible first | exact HB.out | apply aBl | apply pBd | apply dBl) | exact HB.out))) : w.heap.size ≤ gb141)); clear HB; have HB := n0_; have BK141 := n1_; have GW141 := n2_; have GE141 := n3_; clear n0_ n1_ n2_ n3_; clear hb hbox hg; obtain ⟨hcz15_0, hcz15_1, hcz15_2, hcz15_3⟩ := celN4 BK141.out; obtain ⟨hfz15_0, hfz15_1, hfz15_2, hfz15_3⟩ := fzN4 BK141.out))
    go_ret
    exact ⟨by first | rfl | exact nEm _ | exact eEm _ | (simp [eWn, eWs] <;> rfl) | (simp [*, eWn, eWs] <;> rfl), by repeat (first | (with_reducible first | exact HB.out | apply aBl | apply pBd | apply dBl | refine sBl ?_ GE141.out) | exact HB.out)⟩
end Go.Proofs.Ytpphnjmppkbpbaa.PAll
