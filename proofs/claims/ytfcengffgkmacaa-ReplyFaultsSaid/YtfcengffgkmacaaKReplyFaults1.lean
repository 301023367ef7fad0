/- What the law ReplyFaults leans on (part 2 of 7): Go functions as plain functions, that the code comes to them, and what these answer. -/
import Derived.Test.YtfcengffgkmacaaKReplyFaults0
import Derived.WalkKit
import Derived.ProofKit
import Derived.OpenShut
import Derived.ShutString
import Derived.ChangeOld
import Derived.Below
import Derived.SizedLaws
import Derived.Lib.SmallJoins
import Derived.Lib.Bytealg
import Derived.Laws.StandIn
import Derived.Lib.ConvBytes
import Derived.Laws.BytesArg
import Derived.Test.YtfcengffgkmacaaProg
import Derived.WalkMore
import Derived.Laws.Cover1
import Derived.LoopTactic
import Derived.Lib.Hide
import Derived.Lib.SliceRun
import Derived.Deep.Draws
import Derived.Deep.AppendLies
import Derived.Maps.AppendAt
import Derived.OwnWalk
import Derived.Laws.MakeOwn
import Derived.Laws.OwnMore
import Derived.Deep.OwnRows
import Derived.Tactics
import Derived.Laws.Slices
import Derived.KernelRfl
import Derived.RowKit3
import Derived.Deep.LoopGhost
import Derived.Deep.QuietTactic
import Derived.BigQuiet
import Derived.WideLaws
import Derived.Deep.DeepCutAuto
import Derived.Deep.CutBlock
import Derived.Deep.RegionHeld3
import Derived.Laws.Rows
import Derived.Lib.AppendStr
import Derived.ArgAppend
import Derived.Laws.IdiomCopy
import Derived.OrdersHeld
import Derived.Laws.BitsLemmas
import Derived.RowKit
namespace Go.Proofs.Ytfcengffgkmacaa.Rd
open Go.RowKit Go.ChangeShapes Go.WideShapes Go.ChangeAt Go.Proofs.YtfcengffgkmacaaW.PrintWords
set_option linter.unusedVariables false
set_option linter.unusedSimpArgs false
def Opens {α : Type} (P : Program) (t : TypeId) (d : Kd α) (ok : α → Prop) : Prop :=
  ∀ (H : Type) (enc : TypeId × Value → H) (W : World) (spare : Nat → Bool) (held : Bool) (fuel : Nat) (cs : List Value) (x : DataW H × List MemPlace),
    DataW.trod enc P W 0 spare held fuel t cs = some x → ∃ a, d.K W a cs ∧ ok a
def OpensF {α : Type} (P : Program) (o : Nat) (l : List Field) (d : Kd α) (ok : α → Prop) : Prop :=
  ∀ (H : Type) (enc : TypeId × Value → H) (W : World) (spare : Nat → Bool) (held : Bool) (fuel : Nat) (cs : List Value),
    (∀ f ∈ l, ∃ x, DataW.trod enc P W 0 spare held fuel f.type ((cs.drop f.offset).take (P.cellsOf f.type)) = some x) → ∃ a, d.K W a ((cs.drop o).take d.sz) ∧ ok a
section
variable {P : Program} {t e : TypeId} {α β : Type}
theorem opens_int {k : IntKind} (hu : P.underlying t = some (.int k)) : Opens P t (Kd.int k) (fun n => (Lit.int k n).wf = true) := by
  intro H enc W spare held fuel cs x h
  obtain ⟨n, rfl, _, hw⟩ := DataW.trod_int hu h
  exact ⟨n, rfl, hw⟩
theorem opens_string (hu : P.underlying t = some .string) : Opens P t Kd.string (fun s => s.size ≤ maxLen) := by
  intro H enc W spare held fuel cs x h
  obtain ⟨n, rfl, _, hw⟩ := DataW.trod_string hu h
  exact ⟨n, rfl, hw⟩
theorem opensF_one {f : Field} {o : Nat} {d : Kd α} {ok : α → Prop} (h : Opens P f.type d ok) (ho : f.offset = o) (hs : P.cellsOf f.type = d.sz) : OpensF P o [f] d ok := by
  intro H enc W spare held fuel cs hf
  obtain ⟨x, hx⟩ := hf f (by simp)
  rw [ho, hs] at hx
  exact h H enc W spare held fuel _ x hx
theorem opensF_cons {f : Field} {l : List Field} {o o' : Nat} {a : Kd α} {b : Kd β} {oka : α → Prop} {okb : β → Prop} (h : Opens P f.type a oka) (ho : f.offset = o) (hs : P.cellsOf f.type = a.sz)
    (ho' : o' = o + a.sz) (hl : OpensF P o' l b okb) : OpensF P o (f :: l) (Kd.pair a b) (fun x => oka x.1 ∧ okb x.2) := by
  intro H enc W spare held fuel cs hf
  subst ho'
  obtain ⟨x, hx⟩ := hf f (by simp)
  rw [ho, hs] at hx
  obtain ⟨p, hp, hop⟩ := h H enc W spare held fuel _ x hx
  obtain ⟨q, hq, hoq⟩ := hl H enc W spare held fuel cs (fun g hg => hf g (by simp [hg]))
  refine ⟨(p, q), ⟨_, _, ?_, hp, hq⟩, hop, hoq⟩
  show (cs.drop o).take (a.sz + b.sz) = _
  rw [List.take_add, List.drop_drop]
theorem opens_struct {fs : Array Field} {d : Kd α} {ok : α → Prop} (hu : P.underlying t = some (.struct fs)) (hF : OpensF P 0 fs.toList d ok) (hc : P.cellsOf t = d.sz) (f : β → α) (g : α → β) (hfg : ∀ a, f (g a) = a) :
    Opens P t (Kd.iso d f) (fun x => ok (f x)) := by
  intro H enc W spare held fuel cs x h
  obtain ⟨xs, n, rfl, rfl, hl, hlen, hf⟩ := DataW.trod_struct hu h
  obtain ⟨a, ha, hok⟩ := hF H enc W spare held n cs (fun q hq => by
    obtain ⟨i, hi, rfl⟩ := List.mem_iff_getElem.1 hq
    have hi' : i < xs.length := by rw [hlen]; simpa using hi
    refine ⟨xs[i], ?_⟩
    have := hf i fs.toList[i] (by simp)
    rw [this, List.getElem?_eq_getElem hi'])
  refine ⟨g a, ?_, by show ok (f (g a)); rw [hfg]; exact hok⟩
  show d.K W (f (g a)) cs
  rw [hfg]
  simpa [← hc, ← hl] using ha
theorem listed (Q : Nat → α → Prop) : ∀ n, (∀ i, i < n → ∃ a, Q i a) → ∃ l : List α, l.length = n ∧ ∀ i a, l[i]? = some a → Q i a
  | 0, _ => ⟨[], rfl, fun i a h => by simp at h⟩
  | n + 1, h => by
    obtain ⟨l, hl, hq⟩ := listed Q n (fun i hi => h i (by omega))
    obtain ⟨a, ha⟩ := h n (by omega)
    refine ⟨l ++ [a], by simp [hl], fun i b hb => ?_⟩
    by_cases hi : i < l.length
    · rw [List.getElem?_append_left hi] at hb
      exact hq i b hb
    · have : i < (l ++ [a]).length := (List.getElem?_eq_some_iff.1 hb).1
      have hi2 : i = l.length := by simp at this; omega
      subst hi2
      simp at hb
      subst hb
      rw [hl]; exact ha
/-- A slice, opened: its elements are of the kind. -/
theorem open_elems {H : Type} {enc : TypeId × Value → H} {W : World} {spare : Nat → Bool} {held : Bool} {fuel : Nat} {cs : List Value} {x : DataW H × List MemPlace} {d : Kd α} {ok : α → Prop}
    (hu : P.underlying t = some (.slice e)) (he : Opens P e d ok) (hc : P.cellsOf e = d.sz) (h : DataW.trod enc P W 0 spare held fuel t cs = some x) :
    ∃ A c, ∃ l : List α, cs = [.slice A l.length c] ∧ l.length ≤ c ∧ d.C W A l.length l ∧ (∀ y ∈ l, ok y) ∧
      (l = [] ∨ ∃ elems rest, x.1 = .slice elems rest ∧ elems.length = l.length) := by
  rcases DataW.trod_slice hu h with ⟨rfl, rfl⟩ | ⟨a, len, cap, elems, rest, n, rfl, rfl, rfl, hb, hl, hm, hlen, hel, _⟩
  · exact ⟨none, 0, [], rfl, Nat.le_refl _, ⟨rfl, by simp, fun h => by simp at h⟩, by simp, .inl rfl⟩
  · obtain ⟨l, hll, hq⟩ := listed (fun i y => ok y ∧ ∃ c, W.cells? 0 (a.add (i * d.sz)) d.sz = some c ∧ d.K W y c) len (fun i hi => by
      have h1 := hel i hi
      have hi' : i < elems.length := by omega
      rw [List.getElem?_eq_getElem hi', hc] at h1
      obtain ⟨c, hc1, hc2⟩ := Option.bind_eq_some_iff.1 h1
      obtain ⟨y, hy, hoy⟩ := he H enc W spare held n c _ hc2
      exact ⟨y, hoy, c, hc1, hy⟩)
    subst hll
    refine ⟨some a, cap, l, rfl, hl, ⟨rfl, by unfold maxLen at hm; omega, fun _ => ⟨a, rfl, fun j p hj => ?_⟩⟩, fun y hy => ?_, .inr ⟨_, _, rfl, by simpa using hlen⟩⟩
    · obtain ⟨_, c, hc1, hk⟩ := hq j p hj
      obtain ⟨_, hcl, hcell⟩ := World.cells?_some hc1
      refine ⟨c, hcl, hk, fun i u hu => ?_⟩
      rw [← Addr.add_add]
      have hi : i < d.sz := by rw [← hcl]; exact (List.getElem?_eq_some_iff.1 hu).1
      rw [hcell i hi]
      exact hu
    · obtain ⟨i, hi⟩ := List.mem_iff_getElem?.1 hy
      exact (hq i y hi).1
theorem opens_slice {d : Kd α} {ok : α → Prop} (hu : P.underlying t = some (.slice e)) (he : Opens P e d ok) (hc : P.cellsOf e = d.sz) : Opens P t (Kd.slice e d) (fun l => ∀ y ∈ l, ok y) := by
  intro H enc W spare held fuel cs x h
  obtain ⟨A, c, l, rfl, hl, hC, hok, _⟩ := open_elems hu he hc h
  exact ⟨l, ⟨A, c, rfl, hl, hC⟩, hok⟩
/-- A parameter that is a struct. -/
theorem open_agg {H : Type} {enc : TypeId × Value → H} {W : World} {spare : Nat → Bool} {held : Bool} {v : Value} {dd : DataW H} {ps : List MemPlace} {d : Kd α} {ok : α → Prop} {r : Reach} {b0 : Nat} {fs : Array Field}
    (hu : P.underlying t = some (.struct fs)) (he : Opens P t d ok) (hv : Value.okWide P W r b0 t v) (h : DataW.Trod enc P W 0 spare held t v dd ps) :
    ∃ (l : List Value) (x : α), v = .agg l.toArray ∧ d.K W x l ∧ ok x := by
  unfold Value.okWide at hv
  rw [hu] at hv
  obtain ⟨cs, rfl, _⟩ := hv
  obtain ⟨fuel, hf⟩ := h
  obtain ⟨x, hk, hok⟩ := he H enc W spare held fuel _ _ hf
  exact ⟨cs.toList, x, rfl, by simpa [Value.cells] using hk, hok⟩
end
end Go.Proofs.Ytfcengffgkmacaa.Rd
namespace Go.Proofs.Ytfcengffgkmacaa.Xw
open Go.RowKit Go.Proofs.YtfcengffgkmacaaW.PrintWords
theorem nEm (l : List UInt8) : Ending.returned (Value.bool !l.isEmpty) = Ending.returned (Value.bool (l != [])) := by cases l <;> rfl
theorem eEm (l : List UInt8) : Ending.returned (Value.bool l.isEmpty) = Ending.returned (Value.bool (l == [])) := by cases l <;> rfl
def idxb (s : ByteArray) (c : Int) : Int := Lib.indexByte s.data.toList c.toNat.toUInt8
def lowI (x : Int) : Int := if 65 ≤ x ∧ x ≤ 90 then x - 65 + 97 else x
def lowAt (s : ByteArray) (k j : Nat) : Int := if j < k then lowI (bt s j) else bt s j
theorem low_frozen (W : World) (e : TypeId) (s : ByteArray) (j : Nat) (hj : j < s.size) : (Lib.bytesWorld W e s).frozen? ⟨W.heap.size, j, none⟩ = false := by
  have h := Lib.bytesWorld_at_new W e s
  have hs : s.size ≤ (Lib.bytesCells W e s).size := by unfold Lib.bytesCells; simp
  unfold World.frozen?
  rw [h]
  simp
  omega
theorem low_cell (W : World) (e : TypeId) (s : ByteArray) (j : Nat) (hj : j < s.size) : (Lib.bytesWorld W e s).cell? ⟨W.heap.size, j, none⟩ = some (.int .u8 (lowAt s 0 j)) := by
  rw [Lib.bytesWorld_cell W e s j hj]
  have h' : j < s.data.toList.length := by rw [data_length]; exact hj
  unfold lowAt bt
  simp [hj, List.getD_eq_getElem?_getD]
  rfl
theorem low_next (s : ByteArray) (k : Nat) (w : World) (g : Nat) (v : Int) (hv : v = lowI (bt s k)) (hk : k < s.size) (h : ∀ j, j < s.size → w.cell? ⟨g, j, none⟩ = some (.int .u8 (lowAt s k j))) :
    ∀ j, j < s.size → (w.setCell ⟨g, k, none⟩ (.int .u8 v)).cell? ⟨g, j, none⟩ = some (.int .u8 (lowAt s (k + 1) j)) := by
  intro j hj
  by_cases hjk : j = k
  · subst hjk
    rw [World.cell?_setCell_same' _ _ _ (by rw [h j hj]; rfl), hv]
    unfold lowAt; rw [if_pos (by omega)]
  · rw [World.cell?_setCell_other _ _ _ _ (by simp), h j hj]
    unfold lowAt
    by_cases hl : j < k
    · rw [if_pos hl, if_pos (by omega)]
    · rw [if_neg hl, if_neg (by omega)]
theorem low_stay (s : ByteArray) (k : Nat) (w : World) (g : Nat) (hv : lowI (bt s k) = bt s k) (h : ∀ j, j < s.size → w.cell? ⟨g, j, none⟩ = some (.int .u8 (lowAt s k j))) :
    ∀ j, j < s.size → w.cell? ⟨g, j, none⟩ = some (.int .u8 (lowAt s (k + 1) j)) := by
  intro j hj
  rw [h j hj]
  unfold lowAt
  by_cases hjk : j = k
  · subst hjk; rw [if_neg (by omega), if_pos (by omega), hv]
  · by_cases hl : j < k
    · rw [if_pos hl, if_pos (by omega)]
    · rw [if_neg hl, if_neg (by omega)]
structure LowIn (s : ByteArray) (g : Nat) (k : Nat) (w wr : World) : Prop where
  cells : ∀ j, j < s.size → wr.cell? ⟨g, j, none⟩ = some (.int .u8 (lowAt s k j))
  free : ∀ j, j < s.size → wr.frozen? ⟨g, j, none⟩ = false
  below : Below w.heap.size w wr
theorem low_end (s : ByteArray) : ((bytesOf s).map lowI).length = s.size ∧ ∀ i, i < s.size → ((bytesOf s).map lowI).getD i 0 = lowAt s s.size i := by
  refine ⟨by rw [List.length_map, bytesOf_length], fun i hi => ?_⟩
  have h1 : i < (bytesOf s).length := by rw [bytesOf_length]; exact hi
  have h := rd_bytesOf s i
  unfold rd at h
  simp [List.getD_eq_getElem?_getD, List.getElem?_eq_getElem h1] at h ⊢
  rw [h]; unfold lowAt; rw [if_pos hi]
end Go.Proofs.Ytfcengffgkmacaa.Xw
namespace Go.Proofs.Ytfcengffgkmacaa.PAll
open Go.RowKit Go.Proofs.Ytfcengffgkmacaa.Xw Go.Proofs.YtfcengffgkmacaaW.PrintWords Go.Proofs.YtfcengffgkmacaaW.PrintLast Go.Proofs.YtfcengffgkmacaaW.PrintMore
attribute [local go_sem] max2_int min2_int max_two min_two max_three min_three max_four min_four   -- for this text's walks alone
set_option linter.unusedVariables false
set_option linter.unusedSimpArgs false
def errW : Option Int → Value
  | none => .nilIface
  | some c => .iface 0 (.int .i64 c)
theorem eWn : errW none = .nilIface := rfl
theorem eWs (c : Int) : errW (some c) = .iface 0 (.int .i64 c) := rfl
theorem info5 : (Try.prog.info? 5).map (fun i => (i.zero, i.size, i.bytes)) = some (some (.int .u8 0), 1, 1) := by kernel_rfl
theorem fld64_0 (c0 c1 c2 c3 c4 : Value) (W : World) : (Instr.field 64 (.agg #[c0, c1, c2, c3, c4]) 0).run Try.prog W = .ok (c0) W := by kernel_rfl
attribute [go_sem] fld64_0
end Go.Proofs.Ytfcengffgkmacaa.PAll
namespace Go.Proofs.Ytfcengffgkmacaa.PAll
open Go.RowKit Go.Proofs.Ytfcengffgkmacaa.Xw Go.Proofs.YtfcengffgkmacaaW.PrintWords Go.Proofs.YtfcengffgkmacaaW.PrintLast Go.Proofs.YtfcengffgkmacaaW.PrintMore
attribute [local go_sem] max2_int min2_int max_two min_two max_three min_three max_four min_four   -- for this text's walks alone
set_option linter.unusedVariables false
set_option linter.unusedSimpArgs false
def nums_Fits.f (a0 : Int) (a1 : Int) (a2 : Int) : Option (Bool) := if a0 ≥ a1 then (some (decide (a0 ≤ a2))) else (some false)
set_option maxHeartbeats 8000000 in
set_option maxRecDepth 100000 in
theorem nums_Fits.calls (a0 : Int) (a1 : Int) (a2 : Int) (r : Bool) (w : World) (h : nums_Fits.f a0 a1 a2 = some r) :
    Calls Try.prog 49 #[.int .i64 a0, .int .i64 a1, .int .i64 a2] w fun e w' => e = .returned (.bool r) ∧ Drawn0 w w' := by
  have H : (if a0 ≥ a1 then (some (decide (a0 ≤ a2))) else (some false)) = some r := h
  clear h
  by_cases c4 : a0 ≥ a1
  · rw [if_pos c4] at H
    have c4b0 : decide (a1 ≤ a0) = true := decide_eq_true c4
    clear c4
    obtain rfl := Option.some.inj H
    go_enter Try.func49, Try.ntmps49
    go_wp2
    go_ret
    exact ⟨by first | rfl | (simp; done) | (simp [*]; done) | exact nEm _ | exact eEm _, by repeat (first | exact Drawn0.refl _ | apply Drawn0.step)⟩
  · rw [if_neg c4] at H
    have c4b0 : decide (a1 ≤ a0) = false := decide_eq_false c4
    clear c4
    obtain rfl := Option.some.inj H
    go_enter Try.func49, Try.ntmps49
    go_wp2
    go_ret
    exact ⟨by first | rfl | (simp; done) | (simp [*]; done) | exact nEm _ | exact eEm _, by repeat (first | exact Drawn0.refl _ | apply Drawn0.step)⟩
def version_may.f (a0 : Int) (a1 : Int) : Option (Bool) := (nums_Fits.f a0 0 15).bind fun t101 => (if t101 = true then ((nums_Fits.f a1 0 1000000).bind fun t102 => (some t102)) else (some false))
set_option maxHeartbeats 8000000 in
set_option maxRecDepth 100000 in
theorem version_may.calls (a0 : Int) (a1 : Int) (r : Bool) (w : World) (h : version_may.f a0 a1 = some r) :
    Calls Try.prog 46 #[.int .i64 a0, .int .i64 a1] w fun e w' => e = .returned (.bool r) ∧ Drawn0 w w' := by
  have H : ((nums_Fits.f a0 0 15).bind fun t101 => (if t101 = true then ((nums_Fits.f a1 0 1000000).bind fun t102 => (some t102)) else (some false))) = some r := h
  clear h
  replace H := Option.bind_eq_some_iff.mp H
  obtain ⟨t101, A30, H⟩ := H
  replace H : (if t101 = true then ((nums_Fits.f a1 0 1000000).bind fun t102 => (some t102)) else (some false)) = some r := H
  have A3 := AsZ.mk A30
  clear A30
  by_cases c4 : t101 = true
  · subst c4
    have H1 : ((nums_Fits.f a1 0 1000000).bind fun t102 => (some t102)) = some r := by rw [if_pos rfl] at H; exact H
    clear H
    have H := H1
    clear H1
    replace H := Option.bind_eq_some_iff.mp H
    obtain ⟨t102, A50, H⟩ := H
    replace H : (some t102) = some r := H
    have A5 := AsZ.mk A50
    clear A50
    obtain rfl := Option.some.inj H
    go_enter Try.func46, Try.ntmps46
    go_wp2_with (first | ((with_reducible refine gCa (f := 49) rfl ?_); refine gLl (some 6) rfl rfl Try.func49 (by kernel_rfl) rfl #[.int .i64 a0, .int .i64 0, .int .i64 15] rfl (by (try simp only [List.map_toArray, List.map_cons, List.map_nil]); first | done | rfl | (simp only [List.length_drop, List.length_take]; rfl)) ?_; (with_reducible refine (nums_Fits.calls a0 0 15 true _ A3.out).mono ?_); rintro e w' ⟨rfl, ⟨nd, rfl⟩⟩; refine ⟨_, rfl, ?_⟩) | (go_at_call 49; (with_reducible refine (nums_Fits.calls a1 0 1000000 t102 _ A5.out).mono ?_); rintro e w' ⟨rfl, ⟨nd, rfl⟩⟩))
    go_ret
    exact ⟨by first | rfl | (simp; done) | (simp [*]; done) | exact nEm _ | exact eEm _, by repeat (first | exact Drawn0.refl _ | apply Drawn0.step)⟩
  · replace c4 := Bool.eq_false_iff.mpr c4
    subst c4
    have H1 : (some false) = some r := by rw [if_neg (show ¬ (false = true) by decide)] at H; exact H
    clear H
    have H := H1
    clear H1
    obtain rfl := Option.some.inj H
    go_enter Try.func46, Try.ntmps46
    go_wp2_with (first | ((with_reducible refine gCa (f := 49) rfl ?_); refine gLl (some 6) rfl rfl Try.func49 (by kernel_rfl) rfl #[.int .i64 a0, .int .i64 0, .int .i64 15] rfl (by (try simp only [List.map_toArray, List.map_cons, List.map_nil]); first | done | rfl | (simp only [List.length_drop, List.length_take]; rfl)) ?_; (with_reducible refine (nums_Fits.calls a0 0 15 false _ A3.out).mono ?_); rintro e w' ⟨rfl, ⟨nd, rfl⟩⟩; refine ⟨_, rfl, ?_⟩))
    go_ret
    exact ⟨by first | rfl | (simp; done) | (simp [*]; done) | exact nEm _ | exact eEm _, by repeat (first | exact Drawn0.refl _ | apply Drawn0.step)⟩
def slRev.l0 : Nat → List Int → Int → Int → Option (List Int)
  | 0, _, _, _ => none
  | k + 1, x0, x2, x3 => if x2 < x3 then (if 0 ≤ x3 then (if x3 < (x0.length : Int) then (if 0 ≤ x2 then (if x2 < (x0.length : Int) then (slRev.l0 k ((x0.set (x2 : Int).toNat (rd x0 x3)).set (x3 : Int).toNat (rd x0 x2)) (wrap64 (x2 + 1)) (wrap64 (x3 - 1))) else (none)) else (none)) else (none)) else (none)) else (some x0)
def slRev.f (k : Nat) (l0 : List Int) : Option (List Int) := slRev.l0 k l0 0 (wrap64 ((l0.length : Int) - 1))
theorem slRev.mono_l : ∀ k, (∀ y0 y1 y2, LeO (slRev.l0 k y0 y1 y2) (slRev.l0 (k + 1) y0 y1 y2))
  | 0 => fun _ _ _ r h => by simp [slRev.l0] at h
  | k + 1 => by
    have ih0 := slRev.mono_l k
    · intro y0 y1 y2
      unfold slRev.l0
      repeat' first
      | (with_reducible exact ih0 _ _ _)
      | (with_reducible exact LeO.refl _)
      | (with_reducible exact LeO.none _)
      | (with_reducible refine LeO.ite ?_ ?_)
      | (with_reducible refine LeO.bind ?_ (fun _ => ?_))
      | exact ih0 _ _ _
      | exact LeO.none _
      | refine LeO.ite ?_ ?_
      | refine LeO.bind ?_ (fun _ => ?_)
theorem slRev.mono : ∀ a0 k, LeO (slRev.f k a0) (slRev.f (k + 1) a0) := by
  intro a0 k
  have ih0 := slRev.mono_l k
  unfold slRev.f
  repeat' first
      | (with_reducible exact ih0 _ _ _)
      | (with_reducible exact LeO.refl _)
      | (with_reducible exact LeO.none _)
      | (with_reducible refine LeO.ite ?_ ?_)
      | (with_reducible refine LeO.bind ?_ (fun _ => ?_))
      | exact ih0 _ _ _
      | exact LeO.none _
      | refine LeO.ite ?_ ?_
      | refine LeO.bind ?_ (fun _ => ?_)
def slRev.T3 : Bool × List (List Nat × List Nat) := (true, [([], []), ([], []), ([], []), ([], []), ([], []), ([], []), ([4, 5], [4, 5]), ([6], [6]), ([], []), ([], []), ([8, 9], [8, 9]), ([10], [10]), ([0, 1, 0, 1, 4, 5, 6, 7, 11], [0, 1]), ([12, 7, 0, 1, 4, 5, 6, 7, 11], [7, 12]), ([2, 3, 0, 1, 2, 3, 4, 5, 6, 7, 8, 9, 10, 11, 12, 13], [2, 3]), ([14, 11, 13, 0, 1, 2, 3, 4, 5, 6, 7, 8, 9, 10, 11, 12, 13], [11, 14])])
def slRev.B3 : List Nat := [0, 0, 0, 0, 0, 0, 48, 112, 0, 0, 768, 1792, 4083, 8179, 16383, 32767]
theorem slRev.tab3 : rtab .any (opsOf Try.f71 3) = slRev.T3 := by kernel_rfl
theorem slRev.bits3 : waitsOk slRev.T3.2 slRev.B3 = true := by kernel_rfl
set_option maxHeartbeats 8000000 in
set_option maxRecDepth 100000 in
theorem slRev.calls (k : Nat) (P0_ : Nat → Prop) (u9000_ : Value) (l0 : List Int) (r : List Int) (w0 w : World) (hB : Below w0.heap.size w0 w) (ho0 : Kd.R (Kd.int .u8) 5 w w0.heap.size P0_ u9000_ l0) (h : slRev.f k l0 = some r) :
    Calls Try.prog 71 #[u9000_] w fun e w' => e = .returned (.tuple #[]) ∧ Kd.R (Kd.int .u8) 5 w' w0.heap.size (fun k_ => (P0_ k_ ∨ w.heap.size ≤ k_)) u9000_ r ∧ Below w0.heap.size w0 w' ∧ Kept w w' (fun k_ => P0_ k_) := by
  have HO0 := AsZ.mk (show Kd.R (Kd.int .u8) 5 w w0.heap.size (fun k_ => (P0_ k_ ∨ w.heap.size ≤ k_)) u9000_ l0 from Kd.R_mono ho0 (fun k_ hk => (.inl hk)))
  have HK := AsZ.mk (Kept.refl w (fun k_ => P0_ k_))
  have HW0 := AsZ.mk hB.size
  have HB := AsZ.mk hB
  clear hB
  have H : (slRev.l0 k l0 0 (wrap64 ((l0.length : Int) - 1))) = some r := h
  clear h
  have H' := AsZ.mk H
  clear H
  obtain ⟨Ao2, co2, eo2⟩ := Kd.R_slice HO0.out
  subst eo2
  go_enter Try.func71, Try.ntmps71
  go_wp2
  go_loopg [2, 3] k (fun kq v2 v3 w' => ∃ (x0_1 : List Int) (x2_1 : Int) (x3_1 : Int), v2 = .int .i64 x2_1 ∧ v3 = .int .i64 x3_1 ∧ AsZ (slRev.l0 kq x0_1 x2_1 x3_1 = some r) ∧ AsZ (kq ≤ k) ∧ AsZ (Kd.R (Kd.int .u8) 5 w' w0.heap.size (fun k_ => (P0_ k_ ∨ w.heap.size ≤ k_)) (.slice Ao2 l0.length co2) x0_1) ∧ AsZ (Kept w w' (fun k_ => P0_ k_)) ∧ AsZ (Below w0.heap.size w0 w'))
  case atStart => exact ⟨(l0), (0), (wrap64 ((l0.length : Int) - 1)), (by first | rfl | (simp; done) | (simp [*]; done)), (by first | rfl | (simp; done) | (simp [*]; done)), H', ⟨Nat.le_refl _⟩, ⟨by (with_reducible repeat (first | apply Kd.R_alloc | apply Kd.R_drewN | apply Kd.R_drew)); exact HO0.out⟩, ⟨by repeat (first | (with_reducible first | exact HK.out | apply Kept.alloc | apply Kept.drewN | apply Kept.drew) | exact HK.out)⟩, ⟨by repeat (first | (with_reducible first | exact HB.out | apply aBl | apply pBd | apply dBl) | exact HB.out)⟩⟩
  case round =>
    clear H'
    try clear p2
    obtain ⟨x0_1, x2_1, x3_1, rfl, rfl, HA, HK1, HO_0, HK, HB⟩ := hrel
    have hl0_1 := (Kd.R_reads' HO_0.out).1
    rw [hl0_1] at HO_0
    (try simp only [hl0_1])
    cases gk with
    | zero => exact absurd HA.out (by simp [slRev.l0])
    | succ k1 =>
      have H := HA.out
      clear HA
      simp only [slRev.l0] at H
      by_cases c3 : x2_1 < x3_1
      · rw [if_pos c3] at H
        have c3b0 : decide (x2_1 < x3_1) = true := decide_eq_true c3
        clear c3
        by_cases c4 : 0 ≤ x3_1
        · rw [if_pos c4] at H
          have c4b0 : decide (0 ≤ x3_1) = true := decide_eq_true c4
          clear c4
          by_cases c5 : x3_1 < (x0_1.length : Int)
          · rw [if_pos c5] at H
            have c5b0 : decide (x3_1 < (x0_1.length : Int)) = true := decide_eq_true c5
            clear c5
            by_cases c6 : 0 ≤ x2_1
            · rw [if_pos c6] at H
              have c6b0 : decide (0 ≤ x2_1) = true := decide_eq_true c6
              clear c6
              by_cases c7 : x2_1 < (x0_1.length : Int)
              · rw [if_pos c7] at H
                have c7b0 : decide (x2_1 < (x0_1.length : Int)) = true := decide_eq_true c7
                clear c7
                obtain ⟨y105, hy105⟩ : ∃ y_ : List Int, y_ = (x0_1.set (x2_1 : Int).toNat (rd x0_1 x3_1)) := ⟨_, rfl⟩
                replace H : (slRev.l0 k1 (y105.set (x3_1 : Int).toNat (rd x0_1 x2_1)) (wrap64 (x2_1 + 1)) (wrap64 (x3_1 - 1))) = some r := by first | (rw [hy105]; with_reducible exact H) | (have H2_ := (Option.bind_some _ _).symm.trans H; rw [hy105]; with_reducible exact H2_) | (have H2_ := (Option.bind_some _ _).symm.trans H; with_reducible exact H2_) | with_reducible exact H | (rw [hy105]; exact H) | exact H
                have Ny105 := AsZ.mk hy105
                clear hy105
                obtain ⟨y106, hy106⟩ : ∃ y_ : List Int, y_ = (y105.set (x3_1 : Int).toNat (rd x0_1 x2_1)) := ⟨_, rfl⟩
                replace H : (slRev.l0 k1 y106 (wrap64 (x2_1 + 1)) (wrap64 (x3_1 - 1))) = some r := by first | (rw [hy106]; with_reducible exact H) | (have H2_ := (Option.bind_some _ _).symm.trans H; rw [hy106]; with_reducible exact H2_) | (have H2_ := (Option.bind_some _ _).symm.trans H; with_reducible exact H2_) | with_reducible exact H | (rw [hy106]; exact H) | exact H
                have Ny106 := AsZ.mk hy106
                clear hy106
                have H' := AsZ.mk H
                clear H
                try go_wp2
                have n0_ := AsZ.mk (Kd.R_drew HO_0.out)
                have n1_ := AsZ.mk (Kept.drew HK.out)
                have n2_ := AsZ.mk (dBl HB.out)
                clear HO_0
                clear HK
                clear HB
                have HO_0 := n0_
                have HK := n1_
                have HB := n2_
                clear n0_ n1_ n2_
                have p103 : 0 ≤ (x3_1 : Int) := of_decide_eq_true (by first | (with_reducible assumption) | assumption)
                have q103 : x3_1 < (x0_1.length : Int) := of_decide_eq_true (by first | (with_reducible assumption) | assumption)
                obtain ⟨ad103, e103, hx103_0⟩ := Kd.at_int (Kd.R_reads' HO_0.out).2.2 x3_1 p103 q103
                cases e103
                replace p103 := eq_true p103
                replace q103 := eq_true q103
                have p104 : 0 ≤ (x2_1 : Int) := of_decide_eq_true (by first | (with_reducible assumption) | assumption)
                have q104 : x2_1 < (x0_1.length : Int) := of_decide_eq_true (by first | (with_reducible assumption) | assumption)
                obtain ⟨ad104, e104, hx104_0⟩ := Kd.at_int (Kd.R_reads' HO_0.out).2.2 x2_1 p104 q104
                obtain rfl : ad103 = ad104 := (by injection e104)
                replace p104 := eq_true p104
                replace q104 := eq_true q104
                have p8 : 0 ≤ (x2_1 : Int) := of_decide_eq_true (by first | (with_reducible assumption) | assumption)
                have q8 : (x2_1 : Int) < ((x0_1.length : Int) : Int) := of_decide_eq_true (by first | (with_reducible assumption) | assumption)
                obtain ⟨go8, co8, eo8, gb8, gl8, cl8, HG8⟩ := Kd.R_form HO_0.out (by omega)
                (first | cases eo8 | (injection eo8 with ea_ en_ ec_; (first | subst ea_ | (injection ea_ with ea_; subst ea_)); subst ec_; clear en_))
                have GB8 := AsZ.mk gb8
                have GG8 := AsZ.mk HG8
                clear gb8 gl8 HG8
                have HMgo8 := AsZ.mk (show (P0_ go8 ∨ w.heap.size ≤ go8) from (HO_0.out.1 _ rfl))
                (first | simp only [add_plain] at hx103_0 | skip)
                (first | simp only [add_plain] at hx104_0 | skip)
                obtain ⟨hx8_0, hf8_0⟩ := Kd.R_celln 0 HO_0.out (x2_1 : Int) p8 q8
                replace p8 := eq_true p8
                replace q8 := eq_true q8
                have HP11 := Kd.R_putn HO_0.out (x2_1 : Int) (rd x0_1 x3_1)
                rw [← Ny105.out] at HP11
                have HQ11 := AsZ.mk HP11
                clear HP11
                have p9 : 0 ≤ (x3_1 : Int) := of_decide_eq_true (by first | (with_reducible assumption) | assumption)
                have q9 : (x3_1 : Int) < ((x0_1.length : Int) : Int) := of_decide_eq_true (by first | (with_reducible assumption) | assumption)
                obtain ⟨hx9_0, hf9_0⟩ := Kd.R_celln 0 HQ11.out (x3_1 : Int) p9 q9
                replace p9 := eq_true p9
                replace q9 := eq_true q9
                have HP12 := Kd.R_putn HQ11.out (x3_1 : Int) (rd x0_1 x2_1)
                rw [← Ny106.out] at HP12
                have HQ12 := AsZ.mk HP12
                clear HP12
                refine start_ (n := 16) (S := fun w' => w'.cell? ⟨go8, (x3_1).toNat, none⟩ = some (.int .u8 (rd x0_1 x3_1)) ∧ w'.cell? ⟨go8, (x2_1).toNat, none⟩ = some (.int .u8 (rd x0_1 x2_1))) (ds := [13, 15]) #[false, false, false, false, false, false, false, false, false, false, false, false, false, false, false, false] (by kernel_rfl) rfl rfl ⟨hx103_0, hx104_0⟩ (fun hHeld => ?_); refine with_tabW slRev.tab3 slRev.bits3 (fun HT_ HW_ => ?_)
                generalize wr.drew = w10 at HO_0 HK HB GG8 HQ11 HQ12 hf8_0 hf9_0 hx103_0 hx104_0 hx8_0 hx9_0 hHeld ⊢
                refine pure_ (i := 0) (N := some 14) (v := ?_) (a' := ?_) #[true, false, false, false, false, false, false, false, false, false, false, false, false, false, false, false] rfl rfl (any_of HT_.out (by kernel_rfl)) (fun _ _ _ h => h) (Or.inl ⟨by rfl, ?_⟩) ?_ ?_
                rotate_left
                · intro w'
                  go_simp
                  with_reducible rfl
                rotate_left
                · simp only [Act.put, List.setIfInBounds_toArray, List.set_cons_zero, List.set_cons_succ, i64_w, i32_w]
                  rfl
                refine pure_ (i := 1) (N := some 15) (v := ?_) (a' := ?_) #[true, true, false, false, false, false, false, false, false, false, false, false, false, false, false, false] rfl rfl (any_of HT_.out (by kernel_rfl)) (fun _ _ _ h => h) (Or.inl ⟨by rfl, ?_⟩) ?_ ?_
                rotate_left
                · intro w'
                  go_simp
                  with_reducible rfl
                rotate_left
                · simp only [Act.put, List.setIfInBounds_toArray, List.set_cons_zero, List.set_cons_succ, i64_w, i32_w]
                  rfl
                refine pure_ (i := 2) (N := some 16) (v := ?_) (a' := ?_) #[true, true, true, false, false, false, false, false, false, false, false, false, false, false, false, false] rfl rfl (any_of HT_.out (by kernel_rfl)) (fun _ _ _ h => h) (Or.inl ⟨by rfl, ?_⟩) ?_ ?_
                rotate_left
                · intro w'
                  go_simp
                  with_reducible rfl
                rotate_left
                · simp only [Act.put, List.setIfInBounds_toArray, List.set_cons_zero, List.set_cons_succ, i64_w, i32_w]
                  rfl
                refine pure_ (i := 3) (N := some 17) (v := ?_) (a' := ?_) #[true, true, true, true, false, false, false, false, false, false, false, false, false, false, false, false] rfl rfl (any_of HT_.out (by kernel_rfl)) (fun _ _ _ h => h) (Or.inl ⟨by rfl, ?_⟩) ?_ ?_
                rotate_left
                · intro w'
                  go_simp
                  with_reducible rfl
                rotate_left
                · simp only [Act.put, List.setIfInBounds_toArray, List.set_cons_zero, List.set_cons_succ, i64_w, i32_w]
                  rfl
                refine pure_ (i := 4) (N := some 18) (v := ?_) (a' := ?_) #[true, true, true, true, true, false, false, false, false, false, false, false, false, false, false, false] rfl rfl (any_of HT_.out (by kernel_rfl)) (fun _ _ _ h => h) (Or.inl ⟨by rfl, ?_⟩) ?_ ?_
                rotate_left
                · intro w'
                  go_simp
                  with_reducible rfl
                rotate_left
                · simp only [Act.put, List.setIfInBounds_toArray, List.set_cons_zero, List.set_cons_succ, i64_w, i32_w]
                  rfl
                refine pure_ (i := 5) (N := some 19) (v := ?_) (a' := ?_) #[true, true, true, true, true, true, false, false, false, false, false, false, false, false, false, false] rfl rfl (any_of HT_.out (by kernel_rfl)) (fun _ _ _ h => h) (Or.inl ⟨by rfl, ?_⟩) ?_ ?_
                rotate_left
                · intro w'
                  go_simp
                  with_reducible rfl
                rotate_left
                · simp only [Act.put, List.setIfInBounds_toArray, List.set_cons_zero, List.set_cons_succ, i64_w, i32_w]
                  rfl
                refine pure_ (i := 6) (N := some 20) (v := ?_) (a' := ?_) #[true, true, true, true, true, true, true, false, false, false, false, false, false, false, false, false] rfl rfl (any_of HT_.out (by kernel_rfl)) (fun _ _ _ h => h) (Or.inl ⟨by rfl, ?_⟩) ?_ ?_
                rotate_left
                · intro w'
                  go_simp
                  with_reducible rfl
                rotate_left
                · simp only [Act.put, List.setIfInBounds_toArray, List.set_cons_zero, List.set_cons_succ, i64_w, i32_w]
                  rfl
                refine pure_ (i := 8) (N := some 22) (v := ?_) (a' := ?_) #[true, true, true, true, true, true, true, false, true, false, false, false, false, false, false, false] rfl rfl (any_of HT_.out (by kernel_rfl)) (fun _ _ _ h => h) (Or.inl ⟨by rfl, ?_⟩) ?_ ?_
                rotate_left
                · intro w'
                  go_simp
                  with_reducible rfl
                rotate_left
                · simp only [Act.put, List.setIfInBounds_toArray, List.set_cons_zero, List.set_cons_succ, i64_w, i32_w]
                  rfl
                refine pure_ (i := 9) (N := some 23) (v := ?_) (a' := ?_) #[true, true, true, true, true, true, true, false, true, true, false, false, false, false, false, false] rfl rfl (any_of HT_.out (by kernel_rfl)) (fun _ _ _ h => h) (Or.inl ⟨by rfl, ?_⟩) ?_ ?_
                rotate_left
                · intro w'
                  go_simp
                  with_reducible rfl
                rotate_left
                · simp only [Act.put, List.setIfInBounds_toArray, List.set_cons_zero, List.set_cons_succ, i64_w, i32_w]
                  rfl
                refine pure_ (i := 10) (N := some 24) (v := ?_) (a' := ?_) #[true, true, true, true, true, true, true, false, true, true, true, false, false, false, false, false] rfl rfl (any_of HT_.out (by kernel_rfl)) (fun _ _ _ h => h) (Or.inl ⟨by rfl, ?_⟩) ?_ ?_
                rotate_left
                · intro w'
                  go_simp
                  with_reducible rfl
                rotate_left
                · simp only [Act.put, List.setIfInBounds_toArray, List.set_cons_zero, List.set_cons_succ, i64_w, i32_w]
                  rfl
                refine take_ (i := 7) (N := some 21) (v := ?_) (a' := ?_) #[true, true, true, true, true, true, true, true, true, true, true, false, false, false, false, false] rfl rfl (take_ofW HT_.out HW_.out (by kernel_rfl)) (fun _ _ _ h => h) (Or.inl ⟨by rfl, ?_⟩) hHeld ?_ ?_
                rotate_left
                · rintro w' ⟨s0, s1⟩
                  go_simp
                  with_reducible rfl
                rotate_left
                · simp only [Act.put, List.setIfInBounds_toArray, List.set_cons_zero, List.set_cons_succ, i64_w, i32_w]
                  rfl
                refine take_ (i := 11) (N := some 25) (v := ?_) (a' := ?_) #[true, true, true, true, true, true, true, true, true, true, true, true, false, false, false, false] rfl rfl (take_ofW HT_.out HW_.out (by kernel_rfl)) (fun _ _ _ h => h) (Or.inl ⟨by rfl, ?_⟩) hHeld ?_ ?_
                rotate_left
                · rintro w' ⟨s0, s1⟩
                  go_simp
                  with_reducible rfl
                rotate_left
                · simp only [Act.put, List.setIfInBounds_toArray, List.set_cons_zero, List.set_cons_succ, i64_w, i32_w]
                  rfl
                refine pure_ (i := 12) (N := some 26) (v := ?_) (a' := ?_) #[true, true, true, true, true, true, true, true, true, true, true, true, true, false, false, false] rfl rfl (any_of HT_.out (by kernel_rfl)) (fun _ _ _ h => h) (Or.inl ⟨by rfl, ?_⟩) ?_ ?_
                rotate_left
                · intro w'
                  go_simp
                  with_reducible rfl
                rotate_left
                · simp only [Act.put, List.setIfInBounds_toArray, List.set_cons_zero, List.set_cons_succ, i64_w, i32_w]
                  rfl
                refine last_ (i := 13) (N := none) #[true, true, true, true, true, true, true, true, true, true, true, true, true, true, false, false] rfl rfl (one_of HT_.out (by kernel_rfl)) (by decide) (fun K hK => ?_)
                refine skip_ (w1 := ?_) (by rfl) rfl ?_ ?_
                rotate_left
                · go_simp
                  rfl
                refine hK.out _ _ ?_
                clear hK K
                refine pure_ (i := 14) (N := some 27) (v := ?_) (a' := ?_) #[true, true, true, true, true, true, true, true, true, true, true, true, true, true, true, false] rfl rfl (any_of HT_.out (by kernel_rfl)) (fun _ _ _ h => h) (Or.inl ⟨by rfl, ?_⟩) ?_ ?_
                rotate_left
                · intro w'
                  go_simp
                  with_reducible rfl
                rotate_left
                · simp only [Act.put, List.setIfInBounds_toArray, List.set_cons_zero, List.set_cons_succ, i64_w, i32_w]
                  rfl
                refine last_ (i := 15) (N := none) #[true, true, true, true, true, true, true, true, true, true, true, true, true, true, true, true] rfl rfl (one_of HT_.out (by kernel_rfl)) (by decide) (fun K hK => ?_)
                refine skip_ (w1 := ?_) (by rfl) rfl ?_ ?_
                rotate_left
                · go_simp
                  rfl
                refine hK.out _ _ ?_
                clear hK K
                refine done_ (done_of HT_.out (by kernel_rfl)) ?_
                try go_wp2
                (try simp only [← hl0_1])
                go_roundg k1
                case measure => have := HK1.out; omega
                case rel => exact ⟨(y106), (wrap64 (x2_1 + 1)), (wrap64 (x3_1 - 1)), (by first | rfl | (simp; done) | (simp [*]; done)), (by first | rfl | (simp; done) | (simp [*]; done)), H', ⟨by have := HK1.out; omega⟩, ⟨by (try simp only [hl0_1]); (with_reducible repeat (first | apply Kd.R_alloc | apply Kd.R_drewN | apply Kd.R_drew)); exact HQ12.out⟩, ⟨by repeat (first | (with_reducible first | exact HK.out | apply Kept.alloc | apply Kept.drewN | apply Kept.drew | refine Kept.setCell ?_ HMgo8.out _ | refine Kept.setCell ?_ HMgo8.out _) | exact HK.out)⟩, ⟨by repeat (first | (with_reducible first | exact HB.out | apply aBl | apply pBd | apply dBl | refine sBl ?_ GB8.out | refine sBl ?_ GB8.out) | exact HB.out)⟩⟩
              · rw [if_neg c7] at H
                exact absurd H (by simp)
            · rw [if_neg c6] at H
              exact absurd H (by simp)
          · rw [if_neg c5] at H
            exact absurd H (by simp)
        · rw [if_neg c4] at H
          exact absurd H (by simp)
      · rw [if_neg c3] at H
        have c3b0 : decide (x2_1 < x3_1) = false := decide_eq_false c3
        clear c3
        obtain rfl := Option.some.inj H
        go_wp2
        first | go_end0 | ((try simp only [Exit.inBlock, Exit.then]); refine bodyPost_ret (results_none rfl _ _ _) rfl ?_)
        exact ⟨by first | rfl | exact nEm _ | exact eEm _ | (simp [eWn, eWs] <;> rfl) | (simp [*, eWn, eWs] <;> rfl), (by first | exact (by (with_reducible repeat (first | apply Kd.R_alloc | apply Kd.R_drewN | apply Kd.R_drew)); exact HO_0.out) | (simp only [hl0_1]; exact (by (with_reducible repeat (first | apply Kd.R_alloc | apply Kd.R_drewN | apply Kd.R_drew)); exact HO_0.out))), by repeat (first | (with_reducible first | exact HB.out | apply aBl | apply pBd | apply dBl) | exact HB.out), by repeat (first | (with_reducible first | exact HK.out | apply Kept.alloc | apply Kept.drewN | apply Kept.drew) | exact HK.out)⟩
mutual
def nums_Print.j0 : Nat → Int → ByteArray → Option (ByteArray)
  | 0, _, _ => none
  | k + 1, x3, x4 => nums_Print.l0 k x3 x4 ([] : List Int)
def nums_Print.l0 : Nat → Int → ByteArray → List Int → Option (ByteArray)
  | 0, _, _, _ => none
  | k + 1, x3, x4, x5 => if x5.length < 140737488355328 then ((some (x5 ++ [(IntKind.u64.wrap (48 + (Int.tmod x3 10))) % 256] : List Int)).bind fun y107 => (if (IntKind.u64.wrap (Int.tdiv x3 10)) = 0 then ((slRev.f k y107).bind fun t110 => (if x4.size + ((strOfNums t110).size) ≤ 9223372036854775807 then (some (x4 ++ (strOfNums t110))) else (none))) else (nums_Print.l0 k (IntKind.u64.wrap (Int.tdiv x3 10)) x4 y107))) else (none)
end
def nums_Print.f (k : Nat) (a0 : Int) : Option (ByteArray) := if a0 < 0 then (nums_Print.j0 k (IntKind.u64.wrap (-(IntKind.u64.wrap (a0)))) (⟨#[45]⟩ : ByteArray)) else (nums_Print.j0 k (IntKind.u64.wrap (a0)) (⟨#[]⟩ : ByteArray))
theorem nums_Print.mono_l : ∀ k, (∀ y0 y1, LeO (nums_Print.j0 k y0 y1) (nums_Print.j0 (k + 1) y0 y1)) ∧ (∀ y0 y1 y2, LeO (nums_Print.l0 k y0 y1 y2) (nums_Print.l0 (k + 1) y0 y1 y2))
  | 0 => ⟨fun _ _ r h => by simp [nums_Print.j0] at h, fun _ _ _ r h => by simp [nums_Print.l0] at h⟩
  | k + 1 => by
    obtain ⟨ih0, ih1⟩ := nums_Print.mono_l k
    refine ⟨?_, ?_⟩
    · intro y0 y1
      unfold nums_Print.j0
      repeat' first
      | (with_reducible exact ih0 _ _)
      | (with_reducible exact ih1 _ _ _)
      | (with_reducible exact slRev.mono _ _)
      | (with_reducible exact LeO.refl _)
      | (with_reducible exact LeO.none _)
      | (with_reducible refine LeO.ite ?_ ?_)
      | (with_reducible refine LeO.bind ?_ (fun _ => ?_))
      | exact ih0 _ _
      | exact ih1 _ _ _
      | exact slRev.mono _ _
      | exact LeO.none _
      | refine LeO.ite ?_ ?_
      | refine LeO.bind ?_ (fun _ => ?_)
    · intro y0 y1 y2
      unfold nums_Print.l0
      repeat' first
      | (with_reducible exact ih0 _ _)
      | (with_reducible exact ih1 _ _ _)
      | (with_reducible exact slRev.mono _ _)
      | (with_reducible exact LeO.refl _)
      | (with_reducible exact LeO.none _)
      | (with_reducible refine LeO.ite ?_ ?_)
      | (with_reducible refine LeO.bind ?_ (fun _ => ?_))
      | exact ih0 _ _
      | exact ih1 _ _ _
      | exact slRev.mono _ _
      | exact LeO.none _
      | refine LeO.ite ?_ ?_
      | refine LeO.bind ?_ (fun _ => ?_)
theorem nums_Print.mono : ∀ a0 k, LeO (nums_Print.f k a0) (nums_Print.f (k + 1) a0) := by
  intro a0 k
  obtain ⟨ih0, ih1⟩ := nums_Print.mono_l k
  unfold nums_Print.f
  repeat' first
      | (with_reducible exact ih0 _ _)
      | (with_reducible exact ih1 _ _ _)
      | (with_reducible exact slRev.mono _ _)
      | (with_reducible exact LeO.refl _)
      | (with_reducible exact LeO.none _)
      | (with_reducible refine LeO.ite ?_ ?_)
      | (with_reducible refine LeO.bind ?_ (fun _ => ?_))
      | exact ih0 _ _
      | exact ih1 _ _ _
      | exact slRev.mono _ _
      | exact LeO.none _
      | refine LeO.ite ?_ ?_
      | refine LeO.bind ?_ (fun _ => ?_)
set_option maxHeartbeats 8000000 in
set_option maxRecDepth 100000 in
theorem nums_Print.calls (k : Nat) (a0 : Int) (r : ByteArray) (w : World) (h : nums_Print.f k a0 = some r) :
    Calls Try.prog 47 #[.int .i64 a0] w fun e w' => e = .returned (.string r) ∧ Below w.heap.size w w' := by
  have HB := AsZ.mk (Below.refl w.heap.size w)
  have H : (if a0 < 0 then (nums_Print.j0 k (IntKind.u64.wrap (-(IntKind.u64.wrap (a0)))) (⟨#[45]⟩ : ByteArray)) else (nums_Print.j0 k (IntKind.u64.wrap (a0)) (⟨#[]⟩ : ByteArray))) = some r := h
  clear h
  have HC2 := AsZ.mk H
  clear H
  go_enter Try.func47, Try.ntmps47
  go_upto_if 9 with (fail)
  go_cut [3, 4] (fun v3 v4 wc => ∃ (kq : Nat) (x3_1 : Int) (x4_1 : ByteArray), v3 = .int .u64 x3_1 ∧ v4 = .string x4_1 ∧ AsZ (nums_Print.j0 kq x3_1 x4_1 = some r) ∧ AsZ (kq ≤ k) ∧ AsZ (Below w.heap.size w wc))
  case first =>
    have H := HC2.out
    clear HC2
    by_cases c3 : a0 < 0
    · rw [if_pos c3] at H
      have c3b0 : decide (a0 < 0) = true := decide_eq_true c3
      clear c3
      (first | rw [c3b0] | (simp only [i64_w, i32_w]; rw [c3b0]) | skip)
      have H' := AsZ.mk H
      clear H
      go_wp2
      go_meet
      case rel => exact ⟨_, (IntKind.u64.wrap (-(IntKind.u64.wrap (a0)))), ((⟨#[45]⟩ : ByteArray)), (by first | rfl | (simp; done) | (simp [*]; done)), (by first | rfl | (simp; done) | (simp [*]; done)), H', ⟨by first | omega | exact Nat.le_refl _⟩, ⟨by repeat (first | (with_reducible first | exact HB.out | apply aBl | apply pBd | apply dBl) | exact HB.out)⟩⟩
    · rw [if_neg c3] at H
      have c3b0 : decide (a0 < 0) = false := decide_eq_false c3
      clear c3
      (first | rw [c3b0] | (simp only [i64_w, i32_w]; rw [c3b0]) | skip)
      have H' := AsZ.mk H
      clear H
      go_wp2
      go_meet
      case rel => exact ⟨_, (IntKind.u64.wrap (a0)), ((⟨#[]⟩ : ByteArray)), (by first | rfl | (simp; done) | (simp [*]; done)), (by first | rfl | (simp; done) | (simp [*]; done)), H', ⟨by first | omega | exact Nat.le_refl _⟩, ⟨by repeat (first | (with_reducible first | exact HB.out | apply aBl | apply pBd | apply dBl) | exact HB.out)⟩⟩
  case rest =>
    clear HC2
    try clear p2
    try clear c3
    try clear c3b0
    obtain ⟨kq, x3_1, x4_1, rfl, rfl, HA, HJ1, HB⟩ := hcut
    cases kq with
    | zero => exact absurd HA.out (by simp [nums_Print.j0])
    | succ kj1 =>
      have H := HA.out
      clear HA
      simp only [nums_Print.j0] at H
      have H' := AsZ.mk H
      clear H
      go_wp2
      go_loopg [3, 5] kj1 (fun kq v3 v5 w' => ∃ (x3_2 : Int) (x5_2 : List Int), v3 = .int .u64 x3_2 ∧ AsZ (nums_Print.l0 kq x3_2 x4_1 x5_2 = some r) ∧ AsZ (kq ≤ kj1) ∧ AsZ (Kd.R (Kd.int .u8) 5 w' w.heap.size (fun _ => True) v5 x5_2) ∧ AsZ (Below w.heap.size w w'))
      case atStart => exact ⟨(x3_1), (([] : List Int)), (by first | rfl | (simp; done) | (simp [*]; done)), H', ⟨Nat.le_refl _⟩, ⟨by first | exact Kd.R_nil _ _ _ _ _ | exact Kd.N_nil _ _ _ _ _ | exact Kd.V_nil _ _ _ _ _ | exact Kd.Q_nil _ _ _ _ _ | exact Kd.S_nil _ _ _ _ _⟩, ⟨by repeat (first | (with_reducible first | exact HB.out | apply aBl | apply pBd | apply dBl) | exact HB.out)⟩⟩
      case round =>
        clear H'
        try clear p2
        try clear c3
        try clear c3b0
        try clear p2
        obtain ⟨x3_2, x5_2, rfl, HA, HK2, HO_5, HB⟩ := hrel
        cases gk with
        | zero => exact absurd HA.out (by simp [nums_Print.l0])
        | succ k2 =>
          have H := HA.out
          clear HA
          simp only [nums_Print.l0] at H
          by_cases c4 : x5_2.length < 140737488355328
          · rw [if_pos c4] at H
            have LMc4 := AsZ.mk c4
            clear c4
            obtain ⟨y107, hy107⟩ : ∃ y_ : List Int, y_ = (x5_2 ++ [(IntKind.u64.wrap (48 + (Int.tmod x3_2 10))) % 256]) := ⟨_, rfl⟩
            replace H : (if (IntKind.u64.wrap (Int.tdiv x3_2 10)) = 0 then ((slRev.f k2 y107).bind fun t110 => (if x4_1.size + ((strOfNums t110).size) ≤ 9223372036854775807 then (some (x4_1 ++ (strOfNums t110))) else (none))) else (nums_Print.l0 k2 (IntKind.u64.wrap (Int.tdiv x3_2 10)) x4_1 y107)) = some r := by first | (rw [hy107]; with_reducible exact H) | (have H2_ := (Option.bind_some _ _).symm.trans H; rw [hy107]; with_reducible exact H2_) | (have H2_ := (Option.bind_some _ _).symm.trans H; with_reducible exact H2_) | with_reducible exact H | (rw [hy107]; exact H) | exact H
            have Ny107 := AsZ.mk hy107
            clear hy107
            by_cases c5 : (IntKind.u64.wrap (Int.tdiv x3_2 10)) = 0
            · rw [if_pos c5] at H
              have c5b0 : ((IntKind.u64.wrap (Int.tdiv x3_2 10)) == 0) = true := beq_iff_eq.mpr c5
              have c5b1 : ((IntKind.u64.wrap (Int.tdiv x3_2 10)) != 0) = false := bne_eq_false_iff_eq.mpr c5
              clear c5
              replace H := Option.bind_eq_some_iff.mp H
              obtain ⟨t110, A60, H⟩ := H
              replace H : (if x4_1.size + ((strOfNums t110).size) ≤ 9223372036854775807 then (some (x4_1 ++ (strOfNums t110))) else (none)) = some r := H
              have A6 := AsZ.mk A60
              clear A60
              by_cases c7 : x4_1.size + ((strOfNums t110).size) ≤ 9223372036854775807
              · rw [if_pos c7] at H
                have c7b0 := eq_true c7
                have c7b1 : decide (x4_1.size + ((strOfNums t110).size) ≤ 9223372036854775807) = true := decide_eq_true c7
                try have c7b2 : (9223372036854775807 < x4_1.size + ((strOfNums t110).size)) = False := eq_false (Nat.not_lt.2 c7)
                obtain rfl := Option.some.inj H
                go_wp2_with (first | ((with_reducible refine gate_builtin (b := .append) (xs := #[.tmp 12, .tmp 17]) rfl ?_); at_builtin; refine Kd.R_append (Kd.int .u8) (w0 := w) w.heap.size rfl (.tmp 12) (.tmp 17) 32 5 (.int .u8 0) 1 rfl Try.underlying32 info5 rfl (by decide) (by omega) u5 x5_2 ((IntKind.u64.wrap (48 + (Int.tmod x3_2 10))) % 256) [.int .u8 ((IntKind.u64.wrap (48 + (Int.tmod x3_2 10))) % 256)] (fun _ => True) (fun _ => False) rfl rfl ?aP (fun _ hk => hk.elim) ?aF ?aO ?aB ?aS ?aL ?_; (case aP => exact rfl); (case aB => exact (by repeat (first | (with_reducible first | exact HB.out | apply aBl | apply pBd | apply dBl) | exact HB.out))); (case aF => exact (fun _ _ => trivial)); (case aO => exact (by (with_reducible repeat (first | apply Kd.R_alloc | apply Kd.R_drewN | apply Kd.R_drew)); exact HO_5.out)); (case aS => exact (zBl (by repeat (first | (with_reducible first | exact HB.out | apply aBl | apply pBd | apply dBl) | exact HB.out)))); (case aL => have := LMc4.out; omega); intro v108 w8 ho hb hg hat; rw [← Ny107.out] at ho; have n0_ := AsZ.mk (hb); have n1_ := AsZ.mk (ho); clear HB; clear HO_5; have HB := n0_; have HO109 := n1_; clear n0_ n1_; clear ho hb hg hat; obtain ⟨Ao9, co9, eo9⟩ := Kd.R_slice HO109.out; subst eo9) | ((with_reducible refine gCa (f := 71) rfl ?_); refine gLl (some 24) rfl rfl Try.func71 (by kernel_rfl) rfl #[.slice Ao9 y107.length co9] rfl (by (try simp only [List.map_toArray, List.map_cons, List.map_nil]); first | done | rfl | (simp only [List.length_drop, List.length_take]; rfl)) ?_; (with_reducible refine (slRev.calls k2 (fun k_ => some k_ = (.slice Ao9 y107.length co9 : Value).ownBlock) (.slice Ao9 y107.length co9) y107 t110 w _ ?side1 ?side2 A6.out).mono ?_); (case side1 => repeat (first | (with_reducible first | exact HB.out | apply aBl | apply pBd | apply dBl) | exact HB.out)); (case side2 => exact Kd.R_tight rfl HO109.out); rintro e w10 ⟨rfl, hy0, hb, hkp⟩; refine ⟨_, rfl, ?_⟩; have n0_ := AsZ.mk (Kd.R_reok rfl hy0 (fun k_ e_ => HO109.out.1 k_ e_)); have n1_ := AsZ.mk (hb); clear HO109; clear HB; have HO109 := n0_; have HB := n1_; clear n0_ n1_; (try clear hb); (try clear hkp); (try clear hy0); have hcv11 := own_string (P := Try.prog) Try.underlying32 Try.underlying5 Try.underlying9 (Kd.own_of_R HO109.out)))
                go_ret
                exact ⟨by first | rfl | exact nEm _ | exact eEm _ | (simp [eWn, eWs] <;> rfl) | (simp [*, eWn, eWs] <;> rfl), by repeat (first | (with_reducible first | exact HB.out | apply aBl | apply pBd | apply dBl) | exact HB.out)⟩
              · rw [if_neg c7] at H
                exact absurd H (by simp)
            · rw [if_neg c5] at H
              have c5b0 : ((IntKind.u64.wrap (Int.tdiv x3_2 10)) == 0) = false := beq_eq_false_iff_ne.mpr c5
              have c5b1 : ((IntKind.u64.wrap (Int.tdiv x3_2 10)) != 0) = true := bne_iff_ne.mpr c5
              have H' := AsZ.mk H
              clear H
              go_wp2_with (first | ((with_reducible refine gate_builtin (b := .append) (xs := #[.tmp 12, .tmp 17]) rfl ?_); at_builtin; refine Kd.R_append (Kd.int .u8) (w0 := w) w.heap.size rfl (.tmp 12) (.tmp 17) 32 5 (.int .u8 0) 1 rfl Try.underlying32 info5 rfl (by decide) (by omega) u5 x5_2 ((IntKind.u64.wrap (48 + (Int.tmod x3_2 10))) % 256) [.int .u8 ((IntKind.u64.wrap (48 + (Int.tmod x3_2 10))) % 256)] (fun _ => True) (fun _ => False) rfl rfl ?aP (fun _ hk => hk.elim) ?aF ?aO ?aB ?aS ?aL ?_; (case aP => exact rfl); (case aB => exact (by repeat (first | (with_reducible first | exact HB.out | apply aBl | apply pBd | apply dBl) | exact HB.out))); (case aF => exact (fun _ _ => trivial)); (case aO => exact (by (with_reducible repeat (first | apply Kd.R_alloc | apply Kd.R_drewN | apply Kd.R_drew)); exact HO_5.out)); (case aS => exact (zBl (by repeat (first | (with_reducible first | exact HB.out | apply aBl | apply pBd | apply dBl) | exact HB.out)))); (case aL => have := LMc4.out; omega); intro v108 w12 ho hb hg hat; rw [← Ny107.out] at ho; have n0_ := AsZ.mk (hb); have n1_ := AsZ.mk (ho); clear HB; clear HO_5; have HB := n0_; have HO109 := n1_; clear n0_ n1_; clear ho hb hg hat))
              go_roundg k2
              case measure => have := HJ1.out; have := HK2.out; omega
              case rel => exact ⟨(IntKind.u64.wrap (Int.tdiv x3_2 10)), (y107), (by first | rfl | (simp; done) | (simp [*]; done)), H', ⟨by have := HJ1.out; have := HK2.out; omega⟩, ⟨by (with_reducible repeat (first | apply Kd.R_alloc | apply Kd.R_drewN | apply Kd.R_drew)); exact HO109.out⟩, ⟨by repeat (first | (with_reducible first | exact HB.out | apply aBl | apply pBd | apply dBl) | exact HB.out)⟩⟩
          · rw [if_neg c4] at H
            exact absurd H (by simp)
end Go.Proofs.Ytfcengffgkmacaa.PAll
namespace Go.Proofs.Ytfcengffgkmacaa.PAll
open Go.RowKit Go.Proofs.Ytfcengffgkmacaa.Xw Go.Proofs.YtfcengffgkmacaaW.PrintWords Go.Proofs.YtfcengffgkmacaaW.PrintLast Go.Proofs.YtfcengffgkmacaaW.PrintMore
attribute [local go_sem] max2_int min2_int max_two min_two max_three min_three max_four min_four   -- for this text's walks alone
set_option linter.unusedVariables false
set_option linter.unusedSimpArgs false
def version_Tag.f (k : Nat) (a0 : Int) (a1 : Int) : Option (ByteArray) := (version_may.f a0 a1).bind fun t111 => (if t111 = true then ((nums_Print.f k a0).bind fun t112 => (if 1 + t112.size ≤ 9223372036854775807 then (if 1 + t112.size + 1 ≤ 9223372036854775807 then ((nums_Print.f k a1).bind fun t113 => (if 1 + t112.size + 1 + t113.size ≤ 9223372036854775807 then (some ((((⟨#[118]⟩ : ByteArray) ++ t112) ++ (⟨#[45]⟩ : ByteArray)) ++ t113)) else (none))) else (none)) else (none))) else (some (⟨#[]⟩ : ByteArray)))
theorem version_Tag.mono : ∀ a0 a1 k, LeO (version_Tag.f k a0 a1) (version_Tag.f (k + 1) a0 a1) := by
  intro a0 a1 k
  unfold version_Tag.f
  repeat' first
      | (with_reducible exact nums_Print.mono _ _)
      | (with_reducible exact LeO.refl _)
      | (with_reducible exact LeO.none _)
      | (with_reducible refine LeO.ite ?_ ?_)
      | (with_reducible refine LeO.bind ?_ (fun _ => ?_))
      | exact nums_Print.mono _ _
      | exact LeO.none _
      | refine LeO.ite ?_ ?_
      | refine LeO.bind ?_ (fun _ => ?_)
set_option maxHeartbeats 8000000 in
set_option maxRecDepth 100000 in
theorem version_Tag.calls (k : Nat) (a0 : Int) (a1 : Int) (r : ByteArray) (w : World) (h : version_Tag.f k a0 a1 = some r) :
    Calls Try.prog 12 #[.int .i64 a0, .int .i64 a1] w fun e w' => e = .returned (.string r) ∧ Below w.heap.size w w' := by
  have HB := AsZ.mk (Below.refl w.heap.size w)
  have H : ((version_may.f a0 a1).bind fun t111 => (if t111 = true then ((nums_Print.f k a0).bind fun t112 => (if 1 + t112.size ≤ 9223372036854775807 then (if 1 + t112.size + 1 ≤ 9223372036854775807 then ((nums_Print.f k a1).bind fun t113 => (if 1 + t112.size + 1 + t113.size ≤ 9223372036854775807 then (some ((((⟨#[118]⟩ : ByteArray) ++ t112) ++ (⟨#[45]⟩ : ByteArray)) ++ t113)) else (none))) else (none)) else (none))) else (some (⟨#[]⟩ : ByteArray)))) = some r := h
  clear h
  replace H := Option.bind_eq_some_iff.mp H
  obtain ⟨t111, A30, H⟩ := H
  replace H : (if t111 = true then ((nums_Print.f k a0).bind fun t112 => (if 1 + t112.size ≤ 9223372036854775807 then (if 1 + t112.size + 1 ≤ 9223372036854775807 then ((nums_Print.f k a1).bind fun t113 => (if 1 + t112.size + 1 + t113.size ≤ 9223372036854775807 then (some ((((⟨#[118]⟩ : ByteArray) ++ t112) ++ (⟨#[45]⟩ : ByteArray)) ++ t113)) else (none))) else (none)) else (none))) else (some (⟨#[]⟩ : ByteArray))) = some r := H
  have A3 := AsZ.mk A30
  clear A30
  by_cases c4 : t111 = true
  · subst c4
    have H1 : ((nums_Print.f k a0).bind fun t112 => (if 1 + t112.size ≤ 9223372036854775807 then (if 1 + t112.size + 1 ≤ 9223372036854775807 then ((nums_Print.f k a1).bind fun t113 => (if 1 + t112.size + 1 + t113.size ≤ 9223372036854775807 then (some ((((⟨#[118]⟩ : ByteArray) ++ t112) ++ (⟨#[45]⟩ : ByteArray)) ++ t113)) else (none))) else (none)) else (none))) = some r := by rw [if_pos rfl] at H; exact H
    clear H
    have H := H1
    clear H1
    replace H := Option.bind_eq_some_iff.mp H
    obtain ⟨t112, A50, H⟩ := H
    replace H : (if 1 + t112.size ≤ 9223372036854775807 then (if 1 + t112.size + 1 ≤ 9223372036854775807 then ((nums_Print.f k a1).bind fun t113 => (if 1 + t112.size + 1 + t113.size ≤ 9223372036854775807 then (some ((((⟨#[118]⟩ : ByteArray) ++ t112) ++ (⟨#[45]⟩ : ByteArray)) ++ t113)) else (none))) else (none)) else (none)) = some r := H
    have A5 := AsZ.mk A50
    clear A50
    by_cases c6 : 1 + t112.size ≤ 9223372036854775807
    · rw [if_pos c6] at H
      have c6b0 := eq_true c6
      have c6b1 : decide (1 + t112.size ≤ 9223372036854775807) = true := decide_eq_true c6
      try have c6b2 : (9223372036854775807 < 1 + t112.size) = False := eq_false (Nat.not_lt.2 c6)
      by_cases c7 : 1 + t112.size + 1 ≤ 9223372036854775807
      · rw [if_pos c7] at H
        have c7b0 := eq_true c7
        have c7b1 : decide (1 + t112.size + 1 ≤ 9223372036854775807) = true := decide_eq_true c7
        try have c7b2 : (9223372036854775807 < 1 + t112.size + 1) = False := eq_false (Nat.not_lt.2 c7)
        replace H := Option.bind_eq_some_iff.mp H
        obtain ⟨t113, A80, H⟩ := H
        replace H : (if 1 + t112.size + 1 + t113.size ≤ 9223372036854775807 then (some ((((⟨#[118]⟩ : ByteArray) ++ t112) ++ (⟨#[45]⟩ : ByteArray)) ++ t113)) else (none)) = some r := H
        have A8 := AsZ.mk A80
        clear A80
        by_cases c9 : 1 + t112.size + 1 + t113.size ≤ 9223372036854775807
        · rw [if_pos c9] at H
          have c9b0 := eq_true c9
          have c9b1 : decide (1 + t112.size + 1 + t113.size ≤ 9223372036854775807) = true := decide_eq_true c9
          try have c9b2 : (9223372036854775807 < 1 + t112.size + 1 + t113.size) = False := eq_false (Nat.not_lt.2 c9)
          obtain rfl := Option.some.inj H
          go_enter Try.func12, Try.ntmps12
          go_wp2_with (first | ((with_reducible refine gCa (f := 46) rfl ?_); refine gLl (some 7) rfl rfl Try.func46 (by kernel_rfl) rfl #[.int .i64 a0, .int .i64 a1] rfl (by (try simp only [List.map_toArray, List.map_cons, List.map_nil]); first | done | rfl | (simp only [List.length_drop, List.length_take]; rfl)) ?_; (with_reducible refine (version_may.calls a0 a1 true _ A3.out).mono ?_); rintro e w' ⟨rfl, ⟨nd, rfl⟩⟩; refine ⟨_, rfl, ?_⟩) | ((with_reducible refine gCa (f := 47) rfl ?_); refine gLl (some 10) rfl rfl Try.func47 (by kernel_rfl) rfl #[.int .i64 a0] rfl (by (try simp only [List.map_toArray, List.map_cons, List.map_nil]); first | done | rfl | (simp only [List.length_drop, List.length_take]; rfl)) ?_; (with_reducible refine (nums_Print.calls k a0 t112 _ A5.out).mono ?_); rintro e w10 ⟨rfl, hb⟩; refine ⟨_, rfl, ?_⟩; have n0_ := AsZ.mk (tBl (by repeat (first | (with_reducible first | exact HB.out | apply aBl | apply pBd | apply dBl) | exact HB.out)) hb); clear HB; have HB := n0_; clear n0_; (try clear hb); (try clear hb2); (try clear hk); (try clear hi)) | ((with_reducible refine gCa (f := 47) rfl ?_); refine gLl (some 14) rfl rfl Try.func47 (by kernel_rfl) rfl #[.int .i64 a1] rfl (by (try simp only [List.map_toArray, List.map_cons, List.map_nil]); first | done | rfl | (simp only [List.length_drop, List.length_take]; rfl)) ?_; (with_reducible refine (nums_Print.calls k a1 t113 _ A8.out).mono ?_); rintro e w11 ⟨rfl, hb⟩; refine ⟨_, rfl, ?_⟩; have n0_ := AsZ.mk (tBl (by repeat (first | (with_reducible first | exact HB.out | apply aBl | apply pBd | apply dBl) | exact HB.out)) hb); clear HB; have HB := n0_; clear n0_; (try clear hb); (try clear hb2); (try clear hk); (try clear hi)))
          go_ret
          exact ⟨by first | rfl | exact nEm _ | exact eEm _ | (simp [eWn, eWs] <;> rfl) | (simp [*, eWn, eWs] <;> rfl), by repeat (first | (with_reducible first | exact HB.out | apply aBl | apply pBd | apply dBl) | exact HB.out)⟩
        · rw [if_neg c9] at H
          exact absurd H (by simp)
      · rw [if_neg c7] at H
        exact absurd H (by simp)
    · rw [if_neg c6] at H
      exact absurd H (by simp)
  · replace c4 := Bool.eq_false_iff.mpr c4
    subst c4
    have H1 : (some (⟨#[]⟩ : ByteArray)) = some r := by rw [if_neg (show ¬ (false = true) by decide)] at H; exact H
    clear H
    have H := H1
    clear H1
    obtain rfl := Option.some.inj H
    go_enter Try.func12, Try.ntmps12
    go_wp2_with (first | ((with_reducible refine gCa (f := 46) rfl ?_); refine gLl (some 7) rfl rfl Try.func46 (by kernel_rfl) rfl #[.int .i64 a0, .int .i64 a1] rfl (by (try simp only [List.map_toArray, List.map_cons, List.map_nil]); first | done | rfl | (simp only [List.length_drop, List.length_take]; rfl)) ?_; (with_reducible refine (version_may.calls a0 a1 false _ A3.out).mono ?_); rintro e w' ⟨rfl, ⟨nd, rfl⟩⟩; refine ⟨_, rfl, ?_⟩))
    go_ret
    exact ⟨by first | rfl | exact nEm _ | exact eEm _ | (simp [eWn, eWs] <;> rfl) | (simp [*, eWn, eWs] <;> rfl), by repeat (first | (with_reducible first | exact HB.out | apply aBl | apply pBd | apply dBl) | exact HB.out)⟩
def version_Length.f (a0 : Int) (a1 : Int) : Option (Int) := (version_may.f a0 a1).bind fun t114 => (if t114 = true then (some (Int.tmod (wrap64 ((wrap64 (53 * a0)) + (wrap64 (29 * a1)))) 160)) else (some 0))
set_option maxHeartbeats 8000000 in
set_option maxRecDepth 100000 in
theorem version_Length.calls (a0 : Int) (a1 : Int) (r : Int) (w : World) (h : version_Length.f a0 a1 = some r) :
    Calls Try.prog 16 #[.int .i64 a0, .int .i64 a1] w fun e w' => e = .returned (.int .i64 r) ∧ Drawn0 w w' := by
  have H : ((version_may.f a0 a1).bind fun t114 => (if t114 = true then (some (Int.tmod (wrap64 ((wrap64 (53 * a0)) + (wrap64 (29 * a1)))) 160)) else (some 0))) = some r := h
  clear h
  replace H := Option.bind_eq_some_iff.mp H
  obtain ⟨t114, A30, H⟩ := H
  replace H : (if t114 = true then (some (Int.tmod (wrap64 ((wrap64 (53 * a0)) + (wrap64 (29 * a1)))) 160)) else (some 0)) = some r := H
  have A3 := AsZ.mk A30
  clear A30
  by_cases c4 : t114 = true
  · subst c4
    have H1 : (some (Int.tmod (wrap64 ((wrap64 (53 * a0)) + (wrap64 (29 * a1)))) 160)) = some r := by rw [if_pos rfl] at H; exact H
    clear H
    have H := H1
    clear H1
    obtain rfl := Option.some.inj H
    go_enter Try.func16, Try.ntmps16
    go_wp2_with (first | ((with_reducible refine gCa (f := 46) rfl ?_); refine gLl (some 7) rfl rfl Try.func46 (by kernel_rfl) rfl #[.int .i64 a0, .int .i64 a1] rfl (by (try simp only [List.map_toArray, List.map_cons, List.map_nil]); first | done | rfl | (simp only [List.length_drop, List.length_take]; rfl)) ?_; (with_reducible refine (version_may.calls a0 a1 true _ A3.out).mono ?_); rintro e w' ⟨rfl, ⟨nd, rfl⟩⟩; refine ⟨_, rfl, ?_⟩))
    go_ret
    exact ⟨by first | rfl | (simp; done) | (simp [*]; done) | exact nEm _ | exact eEm _, by repeat (first | exact Drawn0.refl _ | apply Drawn0.step)⟩
  · replace c4 := Bool.eq_false_iff.mpr c4
    subst c4
    have H1 : (some 0) = some r := by rw [if_neg (show ¬ (false = true) by decide)] at H; exact H
    clear H
    have H := H1
    clear H1
    obtain rfl := Option.some.inj H
    go_enter Try.func16, Try.ntmps16
    go_wp2_with (first | ((with_reducible refine gCa (f := 46) rfl ?_); refine gLl (some 7) rfl rfl Try.func46 (by kernel_rfl) rfl #[.int .i64 a0, .int .i64 a1] rfl (by (try simp only [List.map_toArray, List.map_cons, List.map_nil]); first | done | rfl | (simp only [List.length_drop, List.length_take]; rfl)) ?_; (with_reducible refine (version_may.calls a0 a1 false _ A3.out).mono ?_); rintro e w' ⟨rfl, ⟨nd, rfl⟩⟩; refine ⟨_, rfl, ?_⟩))
    go_ret
    exact ⟨by first | rfl | (simp; done) | (simp [*]; done) | exact nEm _ | exact eEm _, by repeat (first | exact Drawn0.refl _ | apply Drawn0.step)⟩
def spencelaw30_awake.f (k : Nat)  : Option (Bool) := (version_Tag.f k 3 2).bind fun t115 => (if t115.toList = ([118, 51, 45, 50] : List UInt8) then ((version_Length.f 1 0).bind fun t116 => (some (t116 == 53))) else (some false))
theorem spencelaw30_awake.mono : ∀ k, LeO (spencelaw30_awake.f k ) (spencelaw30_awake.f (k + 1) ) := by
  intro  k
  unfold spencelaw30_awake.f
  repeat' first
      | (with_reducible exact version_Tag.mono _ _ _)
      | (with_reducible exact LeO.refl _)
      | (with_reducible exact LeO.none _)
      | (with_reducible refine LeO.ite ?_ ?_)
      | (with_reducible refine LeO.bind ?_ (fun _ => ?_))
      | exact version_Tag.mono _ _ _
      | exact LeO.none _
      | refine LeO.ite ?_ ?_
      | refine LeO.bind ?_ (fun _ => ?_)
def version_Find.l0 : Nat → Int → ByteArray → Int → Int → Option (Int × Bool)
  | 0, _, _, _, _ => none
  | k + 1, x0, x1, x12, x13 => if x13 < x12 then ((version_may.f x0 x13).bind fun t117 => (if t117 = true then ((version_Tag.f k x0 x13).bind fun t118 => (if t118.toList = x1.toList then (some (x13, true)) else (version_Find.l0 k x0 x1 x12 (wrap64 (x13 + 1))))) else (version_Find.l0 k x0 x1 x12 (wrap64 (x13 + 1))))) else (some (0, false))
def version_Find.f (k : Nat) (a0 : Int) (a1 : ByteArray) (a2 : Int) : Option (Int × Bool) := version_Find.l0 k a0 a1 ((mn (mx a2 (-1)) 1000000) + 1) 0
theorem version_Find.mono_l : ∀ k, (∀ y0 y1 y2 y3, LeO (version_Find.l0 k y0 y1 y2 y3) (version_Find.l0 (k + 1) y0 y1 y2 y3))
  | 0 => fun _ _ _ _ r h => by simp [version_Find.l0] at h
  | k + 1 => by
    have ih0 := version_Find.mono_l k
    · intro y0 y1 y2 y3
      unfold version_Find.l0
      repeat' first
      | (with_reducible exact ih0 _ _ _ _)
      | (with_reducible exact version_Tag.mono _ _ _)
      | (with_reducible exact LeO.refl _)
      | (with_reducible exact LeO.none _)
      | (with_reducible refine LeO.ite ?_ ?_)
      | (with_reducible refine LeO.bind ?_ (fun _ => ?_))
      | exact ih0 _ _ _ _
      | exact version_Tag.mono _ _ _
      | exact LeO.none _
      | refine LeO.ite ?_ ?_
      | refine LeO.bind ?_ (fun _ => ?_)
theorem version_Find.mono : ∀ a0 a1 a2 k, LeO (version_Find.f k a0 a1 a2) (version_Find.f (k + 1) a0 a1 a2) := by
  intro a0 a1 a2 k
  have ih0 := version_Find.mono_l k
  unfold version_Find.f
  repeat' first
      | (with_reducible exact ih0 _ _ _ _)
      | (with_reducible exact version_Tag.mono _ _ _)
      | (with_reducible exact LeO.refl _)
      | (with_reducible exact LeO.none _)
      | (with_reducible refine LeO.ite ?_ ?_)
      | (with_reducible refine LeO.bind ?_ (fun _ => ?_))
      | exact ih0 _ _ _ _
      | exact version_Tag.mono _ _ _
      | exact LeO.none _
      | refine LeO.ite ?_ ?_
      | refine LeO.bind ?_ (fun _ => ?_)
def spenceref24_Length.f (a0 : Int) (a1 : Int) : Option (Int) := if a0 < 0 then (some (-1)) else (if a0 > 15 then (some (-1)) else (if a1 < 0 then (some (-1)) else (if a1 > 1000000 then (some (-1)) else (some (Int.tmod (wrap64 ((wrap64 (a0 * 53)) + (wrap64 (a1 * 29)))) 160)))))
def r1dig.l0 : Nat → Int → ByteArray → Option (ByteArray)
  | 0, _, _ => none
  | k + 1, x0, x3 => if x0 ≥ 10 then ((some (([(IntKind.u64.wrap (48 + (Int.tmod (IntKind.u64.wrap (Int.tdiv x0 10)) 10))) % 256] : List Int) : List Int)).bind fun y122 => (if (strOfNums y122).size + x3.size ≤ 9223372036854775807 then (r1dig.l0 k (IntKind.u64.wrap (Int.tdiv x0 10)) ((strOfNums y122) ++ x3)) else (none))) else (some x3)
def r1dig.f (k : Nat) (a0 : Int) : Option (ByteArray) := r1dig.l0 k a0 (strOfNums (([(IntKind.u64.wrap (48 + (Int.tmod a0 10))) % 256] : List Int)))
theorem r1dig.mono_l : ∀ k, (∀ y0 y1, LeO (r1dig.l0 k y0 y1) (r1dig.l0 (k + 1) y0 y1))
  | 0 => fun _ _ r h => by simp [r1dig.l0] at h
  | k + 1 => by
    have ih0 := r1dig.mono_l k
    · intro y0 y1
      unfold r1dig.l0
      repeat' first
      | (with_reducible exact ih0 _ _)
      | (with_reducible exact LeO.refl _)
      | (with_reducible exact LeO.none _)
      | (with_reducible refine LeO.ite ?_ ?_)
      | (with_reducible refine LeO.bind ?_ (fun _ => ?_))
      | exact ih0 _ _
      | exact LeO.none _
      | refine LeO.ite ?_ ?_
      | refine LeO.bind ?_ (fun _ => ?_)
theorem r1dig.mono : ∀ a0 k, LeO (r1dig.f k a0) (r1dig.f (k + 1) a0) := by
  intro a0 k
  have ih0 := r1dig.mono_l k
  unfold r1dig.f
  repeat' first
      | (with_reducible exact ih0 _ _)
      | (with_reducible exact LeO.refl _)
      | (with_reducible exact LeO.none _)
      | (with_reducible refine LeO.ite ?_ ?_)
      | (with_reducible refine LeO.bind ?_ (fun _ => ?_))
      | exact ih0 _ _
      | exact LeO.none _
      | refine LeO.ite ?_ ?_
      | refine LeO.bind ?_ (fun _ => ?_)
set_option maxHeartbeats 8000000 in
set_option maxRecDepth 100000 in
theorem r1dig.calls (k : Nat) (a0 : Int) (r : ByteArray) (w : World) (h : r1dig.f k a0 = some r) :
    Calls Try.prog 72 #[.int .u64 a0] w fun e w' => e = .returned (.string r) ∧ Below w.heap.size w w' := by
  have HB := AsZ.mk (Below.refl w.heap.size w)
  have H : (r1dig.l0 k a0 (strOfNums (([(IntKind.u64.wrap (48 + (Int.tmod a0 10))) % 256] : List Int)))) = some r := h
  clear h
  obtain ⟨y119, hy119⟩ : ∃ y_ : List Int, y_ = (([(IntKind.u64.wrap (48 + (Int.tmod a0 10))) % 256] : List Int)) := ⟨_, rfl⟩
  replace H : (r1dig.l0 k a0 (strOfNums y119)) = some r := by first | (rw [hy119]; with_reducible exact H) | (have H2_ := (Option.bind_some _ _).symm.trans H; rw [hy119]; with_reducible exact H2_) | (have H2_ := (Option.bind_some _ _).symm.trans H; with_reducible exact H2_) | with_reducible exact H | (rw [hy119]; exact H) | exact H
  have Ny119 := AsZ.mk hy119
  clear hy119
  have H' := AsZ.mk H
  clear H
  go_enter Try.func72, Try.ntmps72
  go_wp2_with (first | ((with_reducible refine gDs (N := 8) rfl ?_); refine Kd.R_lit (Kd.int .u8) _ 5 ?hg (N := 8) ?hd (xs := ([(IntKind.u64.wrap (48 + (Int.tmod a0 10))) % 256] : List Int)) (inner := [.int .u8 ((IntKind.u64.wrap (48 + (Int.tmod a0 10))) % 256)]) (ok := fun _ => True) (okp := fun _ => True) ?hr ?hp (fun _ hk => hk) trivial (Below.refl _ _) (Nat.le_refl _) (by simp) ?_; (case hd => rfl); (case hg => rfl); (case hr => first | (go_simp; done) | (go_simp; rfl)); (case hp => exact (Reps.one (show Kd.M (Kd.int .u8) _ _ _ ((IntKind.u64.wrap (48 + (Int.tmod a0 10))) % 256) [.int .u8 ((IntKind.u64.wrap (48 + (Int.tmod a0 10))) % 256)] from rfl) (Reps.none _ _))); intro v120 w2 ho3 hb hg_ hnew_; clear hg_ hnew_; (first | rw [← Ny119.out] at ho3 | (simp only [Int.reduceToNat] at ho3; rw [← Ny119.out] at ho3)); have n0_ := AsZ.mk (Kd.R_lower ho3 (zBl (by repeat (first | (with_reducible first | exact HB.out | apply aBl | apply pBd | apply dBl) | exact HB.out)))); have n1_ := AsZ.mk (tBl (by repeat (first | (with_reducible first | exact HB.out | apply aBl | apply pBd | apply dBl) | exact HB.out)) hb); clear HB; have HO121 := n0_; have HB := n1_; clear n0_ n1_; clear hb ho3; have hcv4 := own_string (P := Try.prog) Try.underlying32 Try.underlying5 Try.underlying9 (Kd.own_of_R HO121.out)))
  go_loopg [0, 3] k (fun kq v0 v3 w' => ∃ (x0_1 : Int) (x3_1 : ByteArray), v0 = .int .u64 x0_1 ∧ v3 = .string x3_1 ∧ AsZ (r1dig.l0 kq x0_1 x3_1 = some r) ∧ AsZ (kq ≤ k) ∧ AsZ (Below w.heap.size w w'))
  case atStart => exact ⟨(a0), (strOfNums y119), (by first | rfl | (simp; done) | (simp [*]; done)), (by first | rfl | (simp; done) | (simp [*]; done)), H', ⟨Nat.le_refl _⟩, ⟨by repeat (first | (with_reducible first | exact HB.out | apply aBl | apply pBd | apply dBl) | exact HB.out)⟩⟩
  case round =>
    clear H'
    try clear p2
    try clear hcv4
    obtain ⟨x0_1, x3_1, rfl, rfl, HA, HK1, HB⟩ := hrel
    cases gk with
    | zero => exact absurd HA.out (by simp [r1dig.l0])
    | succ k1 =>
      have H := HA.out
      clear HA
      simp only [r1dig.l0] at H
      by_cases c5 : x0_1 ≥ 10
      · rw [if_pos c5] at H
        have c5b0 : decide (10 ≤ x0_1) = true := decide_eq_true c5
        clear c5
        obtain ⟨y122, hy122⟩ : ∃ y_ : List Int, y_ = (([(IntKind.u64.wrap (48 + (Int.tmod (IntKind.u64.wrap (Int.tdiv x0_1 10)) 10))) % 256] : List Int)) := ⟨_, rfl⟩
        replace H : (if (strOfNums y122).size + x3_1.size ≤ 9223372036854775807 then (r1dig.l0 k1 (IntKind.u64.wrap (Int.tdiv x0_1 10)) ((strOfNums y122) ++ x3_1)) else (none)) = some r := by first | (rw [hy122]; with_reducible exact H) | (have H2_ := (Option.bind_some _ _).symm.trans H; rw [hy122]; with_reducible exact H2_) | (have H2_ := (Option.bind_some _ _).symm.trans H; with_reducible exact H2_) | with_reducible exact H | (rw [hy122]; exact H) | exact H
        have Ny122 := AsZ.mk hy122
        clear hy122
        by_cases c6 : (strOfNums y122).size + x3_1.size ≤ 9223372036854775807
        · rw [if_pos c6] at H
          have c6b0 := eq_true c6
          have c6b1 : decide ((strOfNums y122).size + x3_1.size ≤ 9223372036854775807) = true := decide_eq_true c6
          try have c6b2 : (9223372036854775807 < (strOfNums y122).size + x3_1.size) = False := eq_false (Nat.not_lt.2 c6)
          have H' := AsZ.mk H
          clear H
          go_wp2_with (first | ((with_reducible refine gDs (N := 18) rfl ?_); refine Kd.R_lit (Kd.int .u8) _ 5 ?hg (N := 18) ?hd (xs := ([(IntKind.u64.wrap (48 + (Int.tmod (IntKind.u64.wrap (Int.tdiv x0_1 10)) 10))) % 256] : List Int)) (inner := [.int .u8 ((IntKind.u64.wrap (48 + (Int.tmod (IntKind.u64.wrap (Int.tdiv x0_1 10)) 10))) % 256)]) (ok := fun _ => True) (okp := fun _ => True) ?hr ?hp (fun _ hk => hk) trivial (Below.refl _ _) (Nat.le_refl _) (by simp) ?_; (case hd => rfl); (case hg => rfl); (case hr => first | (go_simp; done) | (go_simp; rfl)); (case hp => exact (Reps.one (show Kd.M (Kd.int .u8) _ _ _ ((IntKind.u64.wrap (48 + (Int.tmod (IntKind.u64.wrap (Int.tdiv x0_1 10)) 10))) % 256) [.int .u8 ((IntKind.u64.wrap (48 + (Int.tmod (IntKind.u64.wrap (Int.tdiv x0_1 10)) 10))) % 256)] from rfl) (Reps.none _ _))); intro v123 w7 ho8 hb hg_ hnew_; clear hg_ hnew_; (first | rw [← Ny122.out] at ho8 | (simp only [Int.reduceToNat] at ho8; rw [← Ny122.out] at ho8)); have n0_ := AsZ.mk (Kd.R_lower ho8 (zBl (by repeat (first | (with_reducible first | exact HB.out | apply aBl | apply pBd | apply dBl) | exact HB.out)))); have n1_ := AsZ.mk (tBl (by repeat (first | (with_reducible first | exact HB.out | apply aBl | apply pBd | apply dBl) | exact HB.out)) hb); clear HB; have HO124 := n0_; have HB := n1_; clear n0_ n1_; clear hb ho8; have hcv9 := own_string (P := Try.prog) Try.underlying32 Try.underlying5 Try.underlying9 (Kd.own_of_R HO124.out)))
          go_roundg k1
          case measure => have := HK1.out; omega
          case rel => exact ⟨(IntKind.u64.wrap (Int.tdiv x0_1 10)), ((strOfNums y122) ++ x3_1), (by first | rfl | (simp; done) | (simp [*]; done)), (by first | rfl | (simp; done) | (simp [*]; done)), H', ⟨by have := HK1.out; omega⟩, ⟨by repeat (first | (with_reducible first | exact HB.out | apply aBl | apply pBd | apply dBl) | exact HB.out)⟩⟩
        · rw [if_neg c6] at H
          exact absurd H (by simp)
      · rw [if_neg c5] at H
        have c5b0 : decide (10 ≤ x0_1) = false := decide_eq_false c5
        clear c5
        obtain rfl := Option.some.inj H
        go_wp2
        go_ret
        exact ⟨by first | rfl | exact nEm _ | exact eEm _ | (simp [eWn, eWs] <;> rfl) | (simp [*, eWn, eWs] <;> rfl), by repeat (first | (with_reducible first | exact HB.out | apply aBl | apply pBd | apply dBl) | exact HB.out)⟩
def r1Prt.f (k : Nat) (a0 : Int) : Option (ByteArray) := if a0 < 0 then ((r1dig.f k (IntKind.u64.wrap ((IntKind.u64.wrap (wrap64 (-(wrap64 (a0 + 1))))) + 1))).bind fun t125 => (if 1 + t125.size ≤ 9223372036854775807 then (some ((⟨#[45]⟩ : ByteArray) ++ t125)) else (none))) else ((r1dig.f k (IntKind.u64.wrap (a0))).bind fun t126 => (some t126))
theorem r1Prt.mono : ∀ a0 k, LeO (r1Prt.f k a0) (r1Prt.f (k + 1) a0) := by
  intro a0 k
  unfold r1Prt.f
  repeat' first
      | (with_reducible exact r1dig.mono _ _)
      | (with_reducible exact LeO.refl _)
      | (with_reducible exact LeO.none _)
      | (with_reducible refine LeO.ite ?_ ?_)
      | (with_reducible refine LeO.bind ?_ (fun _ => ?_))
      | exact r1dig.mono _ _
      | exact LeO.none _
      | refine LeO.ite ?_ ?_
      | refine LeO.bind ?_ (fun _ => ?_)
set_option maxHeartbeats 8000000 in
set_option maxRecDepth 100000 in
theorem r1Prt.calls (k : Nat) (a0 : Int) (r : ByteArray) (w : World) (h : r1Prt.f k a0 = some r) :
    Calls Try.prog 48 #[.int .i64 a0] w fun e w' => e = .returned (.string r) ∧ Below w.heap.size w w' := by
  have HB := AsZ.mk (Below.refl w.heap.size w)
  have H : (if a0 < 0 then ((r1dig.f k (IntKind.u64.wrap ((IntKind.u64.wrap (wrap64 (-(wrap64 (a0 + 1))))) + 1))).bind fun t125 => (if 1 + t125.size ≤ 9223372036854775807 then (some ((⟨#[45]⟩ : ByteArray) ++ t125)) else (none))) else ((r1dig.f k (IntKind.u64.wrap (a0))).bind fun t126 => (some t126))) = some r := h
  clear h
  by_cases c2 : a0 < 0
  · rw [if_pos c2] at H
    have c2b0 : decide (a0 < 0) = true := decide_eq_true c2
    clear c2
    replace H := Option.bind_eq_some_iff.mp H
    obtain ⟨t125, A30, H⟩ := H
    replace H : (if 1 + t125.size ≤ 9223372036854775807 then (some ((⟨#[45]⟩ : ByteArray) ++ t125)) else (none)) = some r := H
    have A3 := AsZ.mk A30
    clear A30
    by_cases c4 : 1 + t125.size ≤ 9223372036854775807
    · rw [if_pos c4] at H
      have c4b0 := eq_true c4
      have c4b1 : decide (1 + t125.size ≤ 9223372036854775807) = true := decide_eq_true c4
      try have c4b2 : (9223372036854775807 < 1 + t125.size) = False := eq_false (Nat.not_lt.2 c4)
      obtain rfl := Option.some.inj H
      go_enter Try.func48, Try.ntmps48
      go_wp2_with (first | ((with_reducible refine gCa (f := 72) rfl ?_); refine gLl (some 12) rfl rfl Try.func72 (by kernel_rfl) rfl #[.int .u64 (IntKind.u64.wrap ((IntKind.u64.wrap (wrap64 (-(wrap64 (a0 + 1))))) + 1))] rfl (by (try simp only [List.map_toArray, List.map_cons, List.map_nil]); first | done | rfl | (simp only [List.length_drop, List.length_take]; rfl)) ?_; (with_reducible refine (r1dig.calls k (IntKind.u64.wrap ((IntKind.u64.wrap (wrap64 (-(wrap64 (a0 + 1))))) + 1)) t125 _ A3.out).mono ?_); rintro e w5 ⟨rfl, hb⟩; refine ⟨_, rfl, ?_⟩; have n0_ := AsZ.mk (tBl (by repeat (first | (with_reducible first | exact HB.out | apply aBl | apply pBd | apply dBl) | exact HB.out)) hb); clear HB; have HB := n0_; clear n0_; (try clear hb); (try clear hb2); (try clear hk); (try clear hi)))
      go_ret
      exact ⟨by first | rfl | exact nEm _ | exact eEm _ | (simp [eWn, eWs] <;> rfl) | (simp [*, eWn, eWs] <;> rfl), by repeat (first | (with_reducible first | exact HB.out | apply aBl | apply pBd | apply dBl) | exact HB.out)⟩
    · rw [if_neg c4] at H
      exact absurd H (by simp)
  · rw [if_neg c2] at H
    have c2b0 : decide (a0 < 0) = false := decide_eq_false c2
    clear c2
    replace H := Option.bind_eq_some_iff.mp H
    obtain ⟨t126, A60, H⟩ := H
    replace H : (some t126) = some r := H
    have A6 := AsZ.mk A60
    clear A60
    obtain rfl := Option.some.inj H
    go_enter Try.func48, Try.ntmps48
    go_wp2_with (first | ((with_reducible refine gCa (f := 72) rfl ?_); refine gLl (some 16) rfl rfl Try.func72 (by kernel_rfl) rfl #[.int .u64 (IntKind.u64.wrap (a0))] rfl (by (try simp only [List.map_toArray, List.map_cons, List.map_nil]); first | done | rfl | (simp only [List.length_drop, List.length_take]; rfl)) ?_; (with_reducible refine (r1dig.calls k (IntKind.u64.wrap (a0)) t126 _ A6.out).mono ?_); rintro e w7 ⟨rfl, hb⟩; refine ⟨_, rfl, ?_⟩; have n0_ := AsZ.mk (tBl (by repeat (first | (with_reducible first | exact HB.out | apply aBl | apply pBd | apply dBl) | exact HB.out)) hb); clear HB; have HB := n0_; clear n0_; (try clear hb); (try clear hb2); (try clear hk); (try clear hi)))
    go_ret
    exact ⟨by first | rfl | exact nEm _ | exact eEm _ | (simp [eWn, eWs] <;> rfl) | (simp [*, eWn, eWs] <;> rfl), by repeat (first | (with_reducible first | exact HB.out | apply aBl | apply pBd | apply dBl) | exact HB.out)⟩
def spenceref24_Tag.f (k : Nat) (a0 : Int) (a1 : Int) : Option (ByteArray) := (spenceref24_Length.f a0 a1).bind fun t127 => (if t127 < 0 then (some (⟨#[]⟩ : ByteArray)) else ((r1Prt.f k a0).bind fun t128 => (if 1 + t128.size ≤ 9223372036854775807 then (if 1 + t128.size + 1 ≤ 9223372036854775807 then ((r1Prt.f k a1).bind fun t129 => (if 1 + t128.size + 1 + t129.size ≤ 9223372036854775807 then (some ((((⟨#[118]⟩ : ByteArray) ++ t128) ++ (⟨#[45]⟩ : ByteArray)) ++ t129)) else (none))) else (none)) else (none))))
theorem spenceref24_Tag.mono : ∀ a0 a1 k, LeO (spenceref24_Tag.f k a0 a1) (spenceref24_Tag.f (k + 1) a0 a1) := by
  intro a0 a1 k
  unfold spenceref24_Tag.f
  repeat' first
      | (with_reducible exact r1Prt.mono _ _)
      | (with_reducible exact LeO.refl _)
      | (with_reducible exact LeO.none _)
      | (with_reducible refine LeO.ite ?_ ?_)
      | (with_reducible refine LeO.bind ?_ (fun _ => ?_))
      | exact r1Prt.mono _ _
      | exact LeO.none _
      | refine LeO.ite ?_ ?_
      | refine LeO.bind ?_ (fun _ => ?_)
end Go.Proofs.Ytfcengffgkmacaa.PAll
namespace Go.Proofs.Ytfcengffgkmacaa.PAll
open Go.RowKit Go.Proofs.Ytfcengffgkmacaa.Xw Go.Proofs.YtfcengffgkmacaaW.PrintWords Go.Proofs.YtfcengffgkmacaaW.PrintLast Go.Proofs.YtfcengffgkmacaaW.PrintMore
attribute [local go_sem] max2_int min2_int max_two min_two max_three min_three max_four min_four   -- for this text's walks alone
set_option linter.unusedVariables false
set_option linter.unusedSimpArgs false
mutual
def l30VT.j0 : Nat → Int → Int → Int → Int → ByteArray → Int → Bool → Option (Bool)
  | 0, _, _, _, _, _, _, _ => none
  | k + 1, x0, x1, x2, x3, x4, x5, x26 => if x26 = true then (some true) else ((version_Tag.f k x0 x1).bind fun t131 => ((version_Tag.f k x2 x3).bind fun t132 => (if t131.toList = ([] : List UInt8) then (l30VT.j1 k x0 x4 x5 false) else (if t131.toList = t132.toList then (if x0 = x2 then (l30VT.j1 k x0 x4 x5 (x1 != x3)) else (l30VT.j1 k x0 x4 x5 true)) else (l30VT.j1 k x0 x4 x5 false)))))
def l30VT.j1 : Nat → Int → ByteArray → Int → Bool → Option (Bool)
  | 0, _, _, _, _ => none
  | k + 1, x0, x4, x5, x49 => if x49 = true then (some false) else ((version_Find.f k x0 x4 x5).bind fun bt133 => (l30VT.l0 k x0 x4 x5 bt133.1 bt133.2 0))
def l30VT.l0 : Nat → Int → ByteArray → Int → Int → Bool → Int → Option (Bool)
  | 0, _, _, _, _, _, _ => none
  | k + 1, x0, x4, x5, x15, x16, x17 => if x17 ≤ x5 then (if x4.toList = ([] : List UInt8) then (l30VT.l0 k x0 x4 x5 x15 x16 (wrap64 (x17 + 1))) else ((spenceref24_Tag.f k x0 x17).bind fun t135 => (if t135.toList = x4.toList then (if x16 = true then (some (x15 == x17)) else (some false)) else (l30VT.l0 k x0 x4 x5 x15 x16 (wrap64 (x17 + 1)))))) else (if x16 = true then (some false) else (some (x15 == 0)))
end
def l30VT.f (k : Nat) (a0 : Int) (a1 : Int) (a2 : Int) (a3 : Int) (a4 : ByteArray) (a5 : Int) : Option (Bool) := (spencelaw30_awake.f k).bind fun t130 => (if t130 = true then (if (a4.size : Int) > 100 then (l30VT.j0 k a0 a1 a2 a3 a4 a5 true) else (l30VT.j0 k a0 a1 a2 a3 a4 a5 (decide (a5 > 300)))) else (some false))
theorem l30VT.mono_l : ∀ k, (∀ y0 y1 y2 y3 y4 y5 y6, LeO (l30VT.j0 k y0 y1 y2 y3 y4 y5 y6) (l30VT.j0 (k + 1) y0 y1 y2 y3 y4 y5 y6)) ∧ (∀ y0 y1 y2 y3, LeO (l30VT.j1 k y0 y1 y2 y3) (l30VT.j1 (k + 1) y0 y1 y2 y3)) ∧ (∀ y0 y1 y2 y3 y4 y5, LeO (l30VT.l0 k y0 y1 y2 y3 y4 y5) (l30VT.l0 (k + 1) y0 y1 y2 y3 y4 y5))
  | 0 => ⟨fun _ _ _ _ _ _ _ r h => by simp [l30VT.j0] at h, fun _ _ _ _ r h => by simp [l30VT.j1] at h, fun _ _ _ _ _ _ r h => by simp [l30VT.l0] at h⟩
  | k + 1 => by
    obtain ⟨ih0, ih1, ih2⟩ := l30VT.mono_l k
    refine ⟨?_, ?_, ?_⟩
    · intro y0 y1 y2 y3 y4 y5 y6
      unfold l30VT.j0
      repeat' first
      | (with_reducible exact ih0 _ _ _ _ _ _ _)
      | (with_reducible exact ih1 _ _ _ _)
      | (with_reducible exact ih2 _ _ _ _ _ _)
      | (with_reducible exact spencelaw30_awake.mono _)
      | (with_reducible exact spenceref24_Tag.mono _ _ _)
      | (with_reducible exact version_Find.mono _ _ _ _)
      | (with_reducible exact version_Tag.mono _ _ _)
      | (with_reducible exact LeO.refl _)
      | (with_reducible exact LeO.none _)
      | (with_reducible refine LeO.ite ?_ ?_)
      | (with_reducible refine LeO.bind ?_ (fun _ => ?_))
      | exact ih0 _ _ _ _ _ _ _
      | exact ih1 _ _ _ _
      | exact ih2 _ _ _ _ _ _
      | exact spencelaw30_awake.mono _
      | exact spenceref24_Tag.mono _ _ _
      | exact version_Find.mono _ _ _ _
      | exact version_Tag.mono _ _ _
      | exact LeO.none _
      | refine LeO.ite ?_ ?_
      | refine LeO.bind ?_ (fun _ => ?_)
    · intro y0 y1 y2 y3
      unfold l30VT.j1
      repeat' first
      | (with_reducible exact ih0 _ _ _ _ _ _ _)
      | (with_reducible exact ih1 _ _ _ _)
      | (with_reducible exact ih2 _ _ _ _ _ _)
      | (with_reducible exact spencelaw30_awake.mono _)
      | (with_reducible exact spenceref24_Tag.mono _ _ _)
      | (with_reducible exact version_Find.mono _ _ _ _)
      | (with_reducible exact version_Tag.mono _ _ _)
      | (with_reducible exact LeO.refl _)
      | (with_reducible exact LeO.none _)
      | (with_reducible refine LeO.ite ?_ ?_)
      | (with_reducible refine LeO.bind ?_ (fun _ => ?_))
      | exact ih0 _ _ _ _ _ _ _
      | exact ih1 _ _ _ _
      | exact ih2 _ _ _ _ _ _
      | exact spencelaw30_awake.mono _
      | exact spenceref24_Tag.mono _ _ _
      | exact version_Find.mono _ _ _ _
      | exact version_Tag.mono _ _ _
      | exact LeO.none _
      | refine LeO.ite ?_ ?_
      | refine LeO.bind ?_ (fun _ => ?_)
    · intro y0 y1 y2 y3 y4 y5
      unfold l30VT.l0
      repeat' first
      | (with_reducible exact ih0 _ _ _ _ _ _ _)
      | (with_reducible exact ih1 _ _ _ _)
      | (with_reducible exact ih2 _ _ _ _ _ _)
      | (with_reducible exact spencelaw30_awake.mono _)
      | (with_reducible exact spenceref24_Tag.mono _ _ _)
      | (with_reducible exact version_Find.mono _ _ _ _)
      | (with_reducible exact version_Tag.mono _ _ _)
      | (with_reducible exact LeO.refl _)
      | (with_reducible exact LeO.none _)
      | (with_reducible refine LeO.ite ?_ ?_)
      | (with_reducible refine LeO.bind ?_ (fun _ => ?_))
      | exact ih0 _ _ _ _ _ _ _
      | exact ih1 _ _ _ _
      | exact ih2 _ _ _ _ _ _
      | exact spencelaw30_awake.mono _
      | exact spenceref24_Tag.mono _ _ _
      | exact version_Find.mono _ _ _ _
      | exact version_Tag.mono _ _ _
      | exact LeO.none _
      | refine LeO.ite ?_ ?_
      | refine LeO.bind ?_ (fun _ => ?_)
theorem l30VT.mono : ∀ a0 a1 a2 a3 a4 a5 k, LeO (l30VT.f k a0 a1 a2 a3 a4 a5) (l30VT.f (k + 1) a0 a1 a2 a3 a4 a5) := by
  intro a0 a1 a2 a3 a4 a5 k
  obtain ⟨ih0, ih1, ih2⟩ := l30VT.mono_l k
  unfold l30VT.f
  repeat' first
      | (with_reducible exact ih0 _ _ _ _ _ _ _)
      | (with_reducible exact ih1 _ _ _ _)
      | (with_reducible exact ih2 _ _ _ _ _ _)
      | (with_reducible exact spencelaw30_awake.mono _)
      | (with_reducible exact spenceref24_Tag.mono _ _ _)
      | (with_reducible exact version_Find.mono _ _ _ _)
      | (with_reducible exact version_Tag.mono _ _ _)
      | (with_reducible exact LeO.refl _)
      | (with_reducible exact LeO.none _)
      | (with_reducible refine LeO.ite ?_ ?_)
      | (with_reducible refine LeO.bind ?_ (fun _ => ?_))
      | exact ih0 _ _ _ _ _ _ _
      | exact ih1 _ _ _ _
      | exact ih2 _ _ _ _ _ _
      | exact spencelaw30_awake.mono _
      | exact spenceref24_Tag.mono _ _ _
      | exact version_Find.mono _ _ _ _
      | exact version_Tag.mono _ _ _
      | exact LeO.none _
      | refine LeO.ite ?_ ?_
      | refine LeO.bind ?_ (fun _ => ?_)
def version_Byte.f (a0 : Int) (a1 : Int) (a2 : Int) : Option (Int) := (version_Length.f a0 a1).bind fun t136 => ((nums_Fits.f a2 0 (wrap64 (t136 - 1))).bind fun t137 => (if t137 = true then (some ((wrap64 ((wrap64 ((wrap64 ((wrap64 (7 * a0)) + (wrap64 (13 * a1)))) + a2)) + (wrap64 (Int.tdiv (wrap64 (a2 * a2)) 3)))) % 256)) else (some 0)))
set_option maxHeartbeats 8000000 in
set_option maxRecDepth 100000 in
theorem version_Byte.calls (a0 : Int) (a1 : Int) (a2 : Int) (r : Int) (w : World) (h : version_Byte.f a0 a1 a2 = some r) :
    Calls Try.prog 17 #[.int .i64 a0, .int .i64 a1, .int .i64 a2] w fun e w' => e = .returned (.int .u8 r) ∧ Drawn0 w w' := by
  have H : ((version_Length.f a0 a1).bind fun t136 => ((nums_Fits.f a2 0 (wrap64 (t136 - 1))).bind fun t137 => (if t137 = true then (some ((wrap64 ((wrap64 ((wrap64 ((wrap64 (7 * a0)) + (wrap64 (13 * a1)))) + a2)) + (wrap64 (Int.tdiv (wrap64 (a2 * a2)) 3)))) % 256)) else (some 0)))) = some r := h
  clear h
  replace H := Option.bind_eq_some_iff.mp H
  obtain ⟨t136, A40, H⟩ := H
  replace H : ((nums_Fits.f a2 0 (wrap64 (t136 - 1))).bind fun t137 => (if t137 = true then (some ((wrap64 ((wrap64 ((wrap64 ((wrap64 (7 * a0)) + (wrap64 (13 * a1)))) + a2)) + (wrap64 (Int.tdiv (wrap64 (a2 * a2)) 3)))) % 256)) else (some 0))) = some r := H
  have A4 := AsZ.mk A40
  clear A40
  replace H := Option.bind_eq_some_iff.mp H
  obtain ⟨t137, A50, H⟩ := H
  replace H : (if t137 = true then (some ((wrap64 ((wrap64 ((wrap64 ((wrap64 (7 * a0)) + (wrap64 (13 * a1)))) + a2)) + (wrap64 (Int.tdiv (wrap64 (a2 * a2)) 3)))) % 256)) else (some 0)) = some r := H
  have A5 := AsZ.mk A50
  clear A50
  by_cases c6 : t137 = true
  · subst c6
    have H1 : (some ((wrap64 ((wrap64 ((wrap64 ((wrap64 (7 * a0)) + (wrap64 (13 * a1)))) + a2)) + (wrap64 (Int.tdiv (wrap64 (a2 * a2)) 3)))) % 256)) = some r := by rw [if_pos rfl] at H; exact H
    clear H
    have H := H1
    clear H1
    obtain rfl := Option.some.inj H
    go_enter Try.func17, Try.ntmps17
    go_wp2_with (first | ((with_reducible refine gCa (f := 16) rfl ?_); refine gLl (some 10) rfl rfl Try.func16 (by kernel_rfl) rfl #[.int .i64 a0, .int .i64 a1] rfl (by (try simp only [List.map_toArray, List.map_cons, List.map_nil]); first | done | rfl | (simp only [List.length_drop, List.length_take]; rfl)) ?_; (with_reducible refine (version_Length.calls a0 a1 t136 _ A4.out).mono ?_); rintro e w' ⟨rfl, ⟨nd, rfl⟩⟩; refine ⟨_, rfl, ?_⟩) | ((with_reducible refine gCa (f := 49) rfl ?_); refine gLl (some 12) rfl rfl Try.func49 (by kernel_rfl) rfl #[.int .i64 a2, .int .i64 0, .int .i64 (wrap64 (t136 - 1))] rfl (by (try simp only [List.map_toArray, List.map_cons, List.map_nil]); first | done | rfl | (simp only [List.length_drop, List.length_take]; rfl)) ?_; (with_reducible refine (nums_Fits.calls a2 0 (wrap64 (t136 - 1)) true _ A5.out).mono ?_); rintro e w' ⟨rfl, ⟨nd, rfl⟩⟩; refine ⟨_, rfl, ?_⟩))
    go_ret
    exact ⟨by first | rfl | (simp; done) | (simp [*]; done) | exact nEm _ | exact eEm _, by repeat (first | exact Drawn0.refl _ | apply Drawn0.step)⟩
  · replace c6 := Bool.eq_false_iff.mpr c6
    subst c6
    have H1 : (some 0) = some r := by rw [if_neg (show ¬ (false = true) by decide)] at H; exact H
    clear H
    have H := H1
    clear H1
    obtain rfl := Option.some.inj H
    go_enter Try.func17, Try.ntmps17
    go_wp2_with (first | ((with_reducible refine gCa (f := 16) rfl ?_); refine gLl (some 10) rfl rfl Try.func16 (by kernel_rfl) rfl #[.int .i64 a0, .int .i64 a1] rfl (by (try simp only [List.map_toArray, List.map_cons, List.map_nil]); first | done | rfl | (simp only [List.length_drop, List.length_take]; rfl)) ?_; (with_reducible refine (version_Length.calls a0 a1 t136 _ A4.out).mono ?_); rintro e w' ⟨rfl, ⟨nd, rfl⟩⟩; refine ⟨_, rfl, ?_⟩) | ((with_reducible refine gCa (f := 49) rfl ?_); refine gLl (some 12) rfl rfl Try.func49 (by kernel_rfl) rfl #[.int .i64 a2, .int .i64 0, .int .i64 (wrap64 (t136 - 1))] rfl (by (try simp only [List.map_toArray, List.map_cons, List.map_nil]); first | done | rfl | (simp only [List.length_drop, List.length_take]; rfl)) ?_; (with_reducible refine (nums_Fits.calls a2 0 (wrap64 (t136 - 1)) false _ A5.out).mono ?_); rintro e w' ⟨rfl, ⟨nd, rfl⟩⟩; refine ⟨_, rfl, ?_⟩))
    go_ret
    exact ⟨by first | rfl | (simp; done) | (simp [*]; done) | exact nEm _ | exact eEm _, by repeat (first | exact Drawn0.refl _ | apply Drawn0.step)⟩
def spenceref24_Byte.f (a0 : Int) (a1 : Int) (a2 : Int) : Option (Int) := if a2 < 0 then (some 0) else ((spenceref24_Length.f a0 a1).bind fun t138 => (if a2 ≥ t138 then (some 0) else (some ((Int.tmod (wrap64 ((wrap64 ((wrap64 ((wrap64 (a0 * 7)) + (wrap64 (a1 * 13)))) + a2)) + (wrap64 (Int.tdiv (wrap64 (a2 * a2)) 3)))) 256) % 256))))
end Go.Proofs.Ytfcengffgkmacaa.PAll
namespace Go.Proofs.Ytfcengffgkmacaa.PAll
open Go.RowKit Go.Proofs.Ytfcengffgkmacaa.Xw Go.Proofs.YtfcengffgkmacaaW.PrintWords Go.Proofs.YtfcengffgkmacaaW.PrintLast Go.Proofs.YtfcengffgkmacaaW.PrintMore
attribute [local go_sem] max2_int min2_int max_two min_two max_three min_three max_four min_four   -- for this text's walks alone
set_option linter.unusedVariables false
set_option linter.unusedSimpArgs false
def spenceref01_Bytes.l0 : Nat → List Int → List Int → Int → Int → Option (Bool)
  | 0, _, _, _, _ => none
  | k + 1, x0, x1, x12, x13 => if x13 < x12 then (if 0 ≤ x13 then (if x13 < (x0.length : Int) then (if x13 < (x1.length : Int) then (if (rd x0 x13) = (rd x1 x13) then (spenceref01_Bytes.l0 k x0 x1 x12 (wrap64 (x13 + 1))) else (some false)) else (none)) else (none)) else (none)) else (some true)
def spenceref01_Bytes.f (k : Nat) (l0 : List Int) (l1 : List Int) : Option (Bool) := if (l0.length : Int) = (l1.length : Int) then (spenceref01_Bytes.l0 k l0 l1 (l0.length : Int) 0) else (some false)
theorem spenceref01_Bytes.mono_l : ∀ k, (∀ y0 y1 y2 y3, LeO (spenceref01_Bytes.l0 k y0 y1 y2 y3) (spenceref01_Bytes.l0 (k + 1) y0 y1 y2 y3))
  | 0 => fun _ _ _ _ r h => by simp [spenceref01_Bytes.l0] at h
  | k + 1 => by
    have ih0 := spenceref01_Bytes.mono_l k
    · intro y0 y1 y2 y3
      unfold spenceref01_Bytes.l0
      repeat' first
      | (with_reducible exact ih0 _ _ _ _)
      | (with_reducible exact LeO.refl _)
      | (with_reducible exact LeO.none _)
      | (with_reducible refine LeO.ite ?_ ?_)
      | (with_reducible refine LeO.bind ?_ (fun _ => ?_))
      | exact ih0 _ _ _ _
      | exact LeO.none _
      | refine LeO.ite ?_ ?_
      | refine LeO.bind ?_ (fun _ => ?_)
theorem spenceref01_Bytes.mono : ∀ a0 a1 k, LeO (spenceref01_Bytes.f k a0 a1) (spenceref01_Bytes.f (k + 1) a0 a1) := by
  intro a0 a1 k
  have ih0 := spenceref01_Bytes.mono_l k
  unfold spenceref01_Bytes.f
  repeat' first
      | (with_reducible exact ih0 _ _ _ _)
      | (with_reducible exact LeO.refl _)
      | (with_reducible exact LeO.none _)
      | (with_reducible refine LeO.ite ?_ ?_)
      | (with_reducible refine LeO.bind ?_ (fun _ => ?_))
      | exact ih0 _ _ _ _
      | exact LeO.none _
      | refine LeO.ite ?_ ?_
      | refine LeO.bind ?_ (fun _ => ?_)
set_option maxHeartbeats 8000000 in
set_option maxRecDepth 100000 in
theorem spenceref01_Bytes.calls (k : Nat) (A0 : Option Addr) (c0 : Nat) (l0 : List Int) (A1 : Option Addr) (c1 : Nat) (l1 : List Int) (r : Bool) (w : World) (hr0 : Kd.C (Kd.int .u8) w A0 l0.length l0) (hc0 : l0.length ≤ c0) (hr1 : Kd.C (Kd.int .u8) w A1 l1.length l1) (hc1 : l1.length ≤ c1) (h : spenceref01_Bytes.f k l0 l1 = some r) :
    Calls Try.prog 19 #[.slice A0 l0.length c0, .slice A1 l1.length c1] w fun e w' => e = .returned (.bool r) ∧ Drawn0 w w' := by
  have HR0 := AsZ.mk hr0
  have HC0 := AsZ.mk hc0
  clear hr0 hc0
  have HR1 := AsZ.mk hr1
  have HC1 := AsZ.mk hc1
  clear hr1 hc1
  have H : (if (l0.length : Int) = (l1.length : Int) then (spenceref01_Bytes.l0 k l0 l1 (l0.length : Int) 0) else (some false)) = some r := h
  clear h
  by_cases c3 : (l0.length : Int) = (l1.length : Int)
  · rw [if_pos c3] at H
    have c3b0 : ((l0.length : Int) == (l1.length : Int)) = true := beq_iff_eq.mpr c3
    have c3b1 : ((l0.length : Int) != (l1.length : Int)) = false := bne_eq_false_iff_eq.mpr c3
    have c3b2 : (l0.length == l1.length) = true := by first | simpa using c3 | (simp at c3 ⊢; omega)
    clear c3
    have H' := AsZ.mk H
    clear H
    go_enter Try.func19, Try.ntmps19
    go_wp2
    repeat (go_quiet (fail); try go_wp2)
    go_loopg [13] k (fun kq v13 w' => ∃ (x13_1 : Int), v13 = .int .i64 x13_1 ∧ AsZ (spenceref01_Bytes.l0 kq l0 l1 (l0.length : Int) x13_1 = some r) ∧ AsZ (kq ≤ k) ∧ Drawn0 w w')
    case atStart => exact ⟨(0), (by first | rfl | (simp; done) | (simp [*]; done)), H', ⟨Nat.le_refl _⟩, by repeat (first | exact Drawn0.refl _ | apply Drawn0.step)⟩
    case round =>
      clear H'
      try clear c1
      try clear p2
      try clear c3
      try clear c3b0
      try clear c3b1
      try clear c3b2
      obtain ⟨x13_1, rfl, HA, HK1, ⟨m1, rfl⟩⟩ := hrel
      cases gk with
      | zero => exact absurd HA.out (by simp [spenceref01_Bytes.l0])
      | succ k1 =>
        have H := HA.out
        clear HA
        simp only [spenceref01_Bytes.l0] at H
        by_cases c4 : x13_1 < (l0.length : Int)
        · rw [if_pos c4] at H
          have c4b0 : decide (x13_1 < (l0.length : Int)) = true := decide_eq_true c4
          clear c4
          by_cases c5 : 0 ≤ x13_1
          · rw [if_pos c5] at H
            have c5b0 : decide (0 ≤ x13_1) = true := decide_eq_true c5
            clear c5
            by_cases c6 : x13_1 < (l0.length : Int)
            · rw [if_pos c6] at H
              have c6b0 : decide (x13_1 < (l0.length : Int)) = true := decide_eq_true c6
              clear c6
              by_cases c7 : x13_1 < (l1.length : Int)
              · rw [if_pos c7] at H
                have c7b0 : decide (x13_1 < (l1.length : Int)) = true := decide_eq_true c7
                clear c7
                by_cases c8 : (rd l0 x13_1) = (rd l1 x13_1)
                · rw [if_pos c8] at H
                  have c8b0 : ((rd l0 x13_1) == (rd l1 x13_1)) = true := beq_iff_eq.mpr c8
                  have c8b1 : ((rd l0 x13_1) != (rd l1 x13_1)) = false := bne_eq_false_iff_eq.mpr c8
                  clear c8
                  have H' := AsZ.mk H
                  clear H
                  have p139 : 0 ≤ (x13_1 : Int) := of_decide_eq_true (by first | (with_reducible assumption) | assumption)
                  have q139 : x13_1 < (l0.length : Int) := of_decide_eq_true (by first | (with_reducible assumption) | assumption)
                  obtain ⟨ad139, e139, hx139_0⟩ := Kd.at_int HR0.out x13_1 p139 q139
                  cases e139
                  replace p139 := eq_true p139
                  replace q139 := eq_true q139
                  have p140 : 0 ≤ (x13_1 : Int) := of_decide_eq_true (by first | (with_reducible assumption) | assumption)
                  have q140 : x13_1 < (l1.length : Int) := of_decide_eq_true (by first | (with_reducible assumption) | assumption)
                  obtain ⟨ad140, e140, hx140_0⟩ := Kd.at_int HR1.out x13_1 p140 q140
                  cases e140
                  replace p140 := eq_true p140
                  replace q140 := eq_true q140
                  go_wp2
                  repeat (go_quiet (fail); try go_wp2)
                  go_roundg k1
                  case measure => have := HK1.out; omega
                  case rel => exact ⟨(wrap64 (x13_1 + 1)), (by first | rfl | (simp; done) | (simp [*]; done)), H', ⟨by have := HK1.out; omega⟩, by repeat (first | exact Drawn0.refl _ | apply Drawn0.step)⟩
                · rw [if_neg c8] at H
                  have c8b0 : ((rd l0 x13_1) == (rd l1 x13_1)) = false := beq_eq_false_iff_ne.mpr c8
                  have c8b1 : ((rd l0 x13_1) != (rd l1 x13_1)) = true := bne_iff_ne.mpr c8
                  obtain rfl := Option.some.inj H
                  have p139 : 0 ≤ (x13_1 : Int) := of_decide_eq_true (by first | (with_reducible assumption) | assumption)
                  have q139 : x13_1 < (l0.length : Int) := of_decide_eq_true (by first | (with_reducible assumption) | assumption)
                  obtain ⟨ad139, e139, hx139_0⟩ := Kd.at_int HR0.out x13_1 p139 q139
                  cases e139
                  replace p139 := eq_true p139
                  replace q139 := eq_true q139
                  have p140 : 0 ≤ (x13_1 : Int) := of_decide_eq_true (by first | (with_reducible assumption) | assumption)
                  have q140 : x13_1 < (l1.length : Int) := of_decide_eq_true (by first | (with_reducible assumption) | assumption)
                  obtain ⟨ad140, e140, hx140_0⟩ := Kd.at_int HR1.out x13_1 p140 q140
                  cases e140
                  replace p140 := eq_true p140
                  replace q140 := eq_true q140
                  go_wp2
                  repeat (go_quiet (fail); try go_wp2)
                  go_ret
                  exact ⟨by first | rfl | (simp; done) | (simp [*]; done) | exact nEm _ | exact eEm _, by repeat (first | exact Drawn0.refl _ | apply Drawn0.step)⟩
              · rw [if_neg c7] at H
                exact absurd H (by simp)
            · rw [if_neg c6] at H
              exact absurd H (by simp)
          · rw [if_neg c5] at H
            exact absurd H (by simp)
        · rw [if_neg c4] at H
          have c4b0 : decide (x13_1 < (l0.length : Int)) = false := decide_eq_false c4
          clear c4
          obtain rfl := Option.some.inj H
          go_wp2
          repeat (go_quiet (fail); try go_wp2)
          go_ret
          exact ⟨by first | rfl | (simp; done) | (simp [*]; done) | exact nEm _ | exact eEm _, by repeat (first | exact Drawn0.refl _ | apply Drawn0.step)⟩
  · rw [if_neg c3] at H
    have c3b0 : ((l0.length : Int) == (l1.length : Int)) = false := beq_eq_false_iff_ne.mpr c3
    have c3b1 : ((l0.length : Int) != (l1.length : Int)) = true := bne_iff_ne.mpr c3
    have c3b2 : (l0.length == l1.length) = false := by first | simpa using c3 | (simp at c3 ⊢; omega)
    obtain rfl := Option.some.inj H
    go_enter Try.func19, Try.ntmps19
    go_wp2
    repeat (go_quiet (fail); try go_wp2)
    go_ret
    exact ⟨by first | rfl | (simp; done) | (simp [*]; done) | exact nEm _ | exact eEm _, by repeat (first | exact Drawn0.refl _ | apply Drawn0.step)⟩
def span_Right.f (a0_0 : Int) (a0_1 : Int) : Option (Bool) := if a0_0 ≥ 0 then (if a0_0 < a0_1 then (some (decide (a0_1 ≤ 4611686018427387903))) else (some false)) else (some false)
set_option maxHeartbeats 8000000 in
set_option maxRecDepth 100000 in
theorem span_Right.calls (a0_0 : Int) (a0_1 : Int) (r : Bool) (w : World) (h : span_Right.f a0_0 a0_1 = some r) :
    Calls Try.prog 55 #[.agg #[.int .i64 a0_0, .int .i64 a0_1]] w fun e w' => e = .returned (.bool r) ∧ Below w.heap.size w w' := by
  have hu28 := Try.underlying28
  have HB := AsZ.mk (Below.refl w.heap.size w)
  have H : (if a0_0 ≥ 0 then (if a0_0 < a0_1 then (some (decide (a0_1 ≤ 4611686018427387903))) else (some false)) else (some false)) = some r := h
  clear h
  by_cases c2 : a0_0 ≥ 0
  · rw [if_pos c2] at H
    have c2b0 : decide (0 ≤ a0_0) = true := decide_eq_true c2
    clear c2
    by_cases c3 : a0_0 < a0_1
    · rw [if_pos c3] at H
      have c3b0 : decide (a0_0 < a0_1) = true := decide_eq_true c3
      clear c3
      obtain rfl := Option.some.inj H
      go_enter Try.func55, Try.ntmps55
      go_wp2_with (first | ((with_reducible refine gDs (N := 1) rfl ?_); refine bEv ?hg (N := 1) ?hd (cs := #[.int .i64 a0_0, .int .i64 a0_1]) (t := 28) ?hr ?_; (case hd => rfl); (case hg => rfl); (case hr => first | (go_simp; done) | (go_simp; rfl)); intro gb141 hg w4 hbox hb; have n0_ := AsZ.mk (tBl (by repeat (first | (with_reducible first | exact HB.out | apply aBl | apply pBd | apply dBl) | exact HB.out)) hb); have n1_ := AsZ.mk (hbox); have n2_ := AsZ.mk ((by rw [hg]; exact (zBl (by repeat (first | (with_reducible first | exact HB.out | apply aBl | apply pBd | apply dBl) | exact HB.out))) : w.heap.size ≤ gb141)); have n3_ := AsZ.mk ((by rw [hg]; exact (zBl (by repeat (first | (with_reducible first | exact HB.out | apply aBl | apply pBd | apply dBl) | exact HB.out))) : w.heap.size ≤ gb141)); clear HB; have HB := n0_; have BK141 := n1_; have GW141 := n2_; have GE141 := n3_; clear n0_ n1_ n2_ n3_; clear hb hbox hg; have hcz5_0 : w4.cell? ⟨gb141, 0, none⟩ = some (.int .i64 a0_0) := (bCe BK141.out 0).trans rfl; have hcz5_1 : w4.cell? ⟨gb141, 1, none⟩ = some (.int .i64 a0_1) := (bCe BK141.out 1).trans rfl; have hfz5_0 := bFz BK141.out 0; have hfz5_1 := bFz BK141.out 1))
      go_ret
      exact ⟨by first | rfl | exact nEm _ | exact eEm _ | (simp [eWn, eWs] <;> rfl) | (simp [*, eWn, eWs] <;> rfl), by repeat (first | (with_reducible first | exact HB.out | apply aBl | apply pBd | apply dBl | refine sBl ?_ GE141.out) | exact HB.out)⟩
    · rw [if_neg c3] at H
      have c3b0 : decide (a0_0 < a0_1) = false := decide_eq_false c3
      clear c3
      obtain rfl := Option.some.inj H
      go_enter Try.func55, Try.ntmps55
      go_wp2_with (first | ((with_reducible refine gDs (N := 1) rfl ?_); refine bEv ?hg (N := 1) ?hd (cs := #[.int .i64 a0_0, .int .i64 a0_1]) (t := 28) ?hr ?_; (case hd => rfl); (case hg => rfl); (case hr => first | (go_simp; done) | (go_simp; rfl)); intro gb141 hg w6 hbox hb; have n0_ := AsZ.mk (tBl (by repeat (first | (with_reducible first | exact HB.out | apply aBl | apply pBd | apply dBl) | exact HB.out)) hb); have n1_ := AsZ.mk (hbox); have n2_ := AsZ.mk ((by rw [hg]; exact (zBl (by repeat (first | (with_reducible first | exact HB.out | apply aBl | apply pBd | apply dBl) | exact HB.out))) : w.heap.size ≤ gb141)); have n3_ := AsZ.mk ((by rw [hg]; exact (zBl (by repeat (first | (with_reducible first | exact HB.out | apply aBl | apply pBd | apply dBl) | exact HB.out))) : w.heap.size ≤ gb141)); clear HB; have HB := n0_; have BK141 := n1_; have GW141 := n2_; have GE141 := n3_; clear n0_ n1_ n2_ n3_; clear hb hbox hg; have hcz7_0 : w6.cell? ⟨gb141, 0, none⟩ = some (.int .i64 a0_0) := (bCe BK141.out 0).trans rfl; have hcz7_1 : w6.cell? ⟨gb141, 1, none⟩ = some (.int .i64 a0_1) := (bCe BK141.out 1).trans rfl; have hfz7_0 := bFz BK141.out 0; have hfz7_1 := bFz BK141.out 1))
      go_ret
      exact ⟨by first | rfl | exact nEm _ | exact eEm _ | (simp [eWn, eWs] <;> rfl) | (simp [*, eWn, eWs] <;> rfl), by repeat (first | (with_reducible first | exact HB.out | apply aBl | apply pBd | apply dBl | refine sBl ?_ GE141.out) | exact HB.out)⟩
  · rw [if_neg c2] at H
    have c2b0 : decide (0 ≤ a0_0) = false := decide_eq_false c2
    clear c2
    obtain rfl := Option.some.inj H
    go_enter Try.func55, Try.ntmps55
    go_wp2_with (first | ((with_reducible refine gDs (N := 1) rfl ?_); refine bEv ?hg (N := 1) ?hd (cs := #[.int .i64 a0_0, .int .i64 a0_1]) (t := 28) ?hr ?_; (case hd => rfl); (case hg => rfl); (case hr => first | (go_simp; done) | (go_simp; rfl)); intro gb141 hg w8 hbox hb; have n0_ := AsZ.mk (tBl (by repeat (first | (with_reducible first | exact HB.out | apply aBl | apply pBd | apply dBl) | exact HB.out)) hb); have n1_ := AsZ.mk (hbox); have n2_ := AsZ.mk ((by rw [hg]; exact (zBl (by repeat (first | (with_reducible first | exact HB.out | apply aBl | apply pBd | apply dBl) | exact HB.out))) : w.heap.size ≤ gb141)); have n3_ := AsZ.mk ((by rw [hg]; exact (zBl (by repeat (first | (with_reducible first | exact HB.out | apply aBl | apply pBd | apply dBl) | exact HB.out))) : w.heap.size ≤ gb141)); clear HB; have HB := n0_; have BK141 := n1_; have GW141 := n2_; have GE141 := n3_; clear n0_ n1_ n2_ n3_; clear hb hbox hg; have hcz9_0 : w8.cell? ⟨gb141, 0, none⟩ = some (.int .i64 a0_0) := (bCe BK141.out 0).trans rfl; have hcz9_1 : w8.cell? ⟨gb141, 1, none⟩ = some (.int .i64 a0_1) := (bCe BK141.out 1).trans rfl; have hfz9_0 := bFz BK141.out 0; have hfz9_1 := bFz BK141.out 1))
    go_ret
    exact ⟨by first | rfl | exact nEm _ | exact eEm _ | (simp [eWn, eWs] <;> rfl) | (simp [*, eWn, eWs] <;> rfl), by repeat (first | (with_reducible first | exact HB.out | apply aBl | apply pBd | apply dBl | refine sBl ?_ GE141.out) | exact HB.out)⟩
def span_Meet.f (a0_0 : Int) (a0_1 : Int) (a1_0 : Int) (a1_1 : Int) : Option (Int × Int × Bool) := (span_Right.f a0_0 a0_1).bind fun t146 => (if t146 = true then ((span_Right.f a1_0 a1_1).bind fun t147 => (if t147 = true then ((span_Right.f (mx a0_0 a1_0) (mn a0_1 a1_1)).bind fun t148 => (if t148 = true then (some (mx a0_0 a1_0, mn a0_1 a1_1, true)) else (some (0, 0, false)))) else (some (0, 0, false)))) else (some (0, 0, false)))
set_option maxHeartbeats 8000000 in
set_option maxRecDepth 100000 in
theorem span_Meet.calls (a0_0 : Int) (a0_1 : Int) (a1_0 : Int) (a1_1 : Int) (r1 : Int) (r2 : Int) (r3 : Bool) (w : World) (h : span_Meet.f a0_0 a0_1 a1_0 a1_1 = some (r1, r2, r3)) :
    Calls Try.prog 50 #[.agg #[.int .i64 a0_0, .int .i64 a0_1], .agg #[.int .i64 a1_0, .int .i64 a1_1]] w fun e w' => e = .returned (.tuple #[.agg #[.int .i64 r1, .int .i64 r2], .bool r3]) ∧ Below w.heap.size w w' := by
  have hu28 := Try.underlying28
  have HB := AsZ.mk (Below.refl w.heap.size w)
  have H : ((span_Right.f a0_0 a0_1).bind fun t146 => (if t146 = true then ((span_Right.f a1_0 a1_1).bind fun t147 => (if t147 = true then ((span_Right.f (mx a0_0 a1_0) (mn a0_1 a1_1)).bind fun t148 => (if t148 = true then (some (mx a0_0 a1_0, mn a0_1 a1_1, true)) else (some (0, 0, false)))) else (some (0, 0, false)))) else (some (0, 0, false)))) = some (r1, r2, r3) := h
  clear h
  obtain ⟨ji3, hji3⟩ : ∃ j_ : Int, (mx a0_0 a1_0) = j_ := ⟨_, rfl⟩
  replace H : ((span_Right.f a0_0 a0_1).bind fun t146 => (if t146 = true then ((span_Right.f a1_0 a1_1).bind fun t147 => (if t147 = true then ((span_Right.f (ji3) (mn a0_1 a1_1)).bind fun t148 => (if t148 = true then (some (ji3, mn a0_1 a1_1, true)) else (some (0, 0, false)))) else (some (0, 0, false)))) else (some (0, 0, false)))) = some (r1, r2, r3) := by first | (rw [hji3] at H; exact H) | (simp only [hji3] at H ⊢; exact H)
  have hji3_ : (if a0_0 < a1_0 then a1_0 else a0_0) = ji3 := hji3
  obtain ⟨ji4, hji4⟩ : ∃ j_ : Int, (mn a0_1 a1_1) = j_ := ⟨_, rfl⟩
  replace H : ((span_Right.f a0_0 a0_1).bind fun t146 => (if t146 = true then ((span_Right.f a1_0 a1_1).bind fun t147 => (if t147 = true then ((span_Right.f (ji3) (ji4)).bind fun t148 => (if t148 = true then (some (ji3, ji4, true)) else (some (0, 0, false)))) else (some (0, 0, false)))) else (some (0, 0, false)))) = some (r1, r2, r3) := by first | (rw [hji4] at H; exact H) | (simp only [hji4] at H ⊢; exact H)
  have hji4_ : (if a1_1 < a0_1 then a1_1 else a0_1) = ji4 := hji4
  replace H := Option.bind_eq_some_iff.mp H
  obtain ⟨t146, A50, H⟩ := H
  replace H : (if t146 = true then ((span_Right.f a1_0 a1_1).bind fun t147 => (if t147 = true then ((span_Right.f (ji3) (ji4)).bind fun t148 => (if t148 = true then (some (ji3, ji4, true)) else (some (0, 0, false)))) else (some (0, 0, false)))) else (some (0, 0, false))) = some (r1, r2, r3) := H
  have A5 := AsZ.mk A50
  clear A50
  by_cases c6 : t146 = true
  · subst c6
    have H1 : ((span_Right.f a1_0 a1_1).bind fun t147 => (if t147 = true then ((span_Right.f (ji3) (ji4)).bind fun t148 => (if t148 = true then (some (ji3, ji4, true)) else (some (0, 0, false)))) else (some (0, 0, false)))) = some (r1, r2, r3) := by rw [if_pos rfl] at H; exact H
    clear H
    have H := H1
    clear H1
    replace H := Option.bind_eq_some_iff.mp H
    obtain ⟨t147, A70, H⟩ := H
    replace H : (if t147 = true then ((span_Right.f (ji3) (ji4)).bind fun t148 => (if t148 = true then (some (ji3, ji4, true)) else (some (0, 0, false)))) else (some (0, 0, false))) = some (r1, r2, r3) := H
    have A7 := AsZ.mk A70
    clear A70
    by_cases c8 : t147 = true
    · subst c8
      have H1 : ((span_Right.f (ji3) (ji4)).bind fun t148 => (if t148 = true then (some (ji3, ji4, true)) else (some (0, 0, false)))) = some (r1, r2, r3) := by rw [if_pos rfl] at H; exact H
      clear H
      have H := H1
      clear H1
      replace H := Option.bind_eq_some_iff.mp H
      obtain ⟨t148, A90, H⟩ := H
      replace H : (if t148 = true then (some (ji3, ji4, true)) else (some (0, 0, false))) = some (r1, r2, r3) := H
      have A9 := AsZ.mk A90
      clear A90
      by_cases c10 : t148 = true
      · subst c10
        have H1 : (some (ji3, ji4, true)) = some (r1, r2, r3) := by rw [if_pos rfl] at H; exact H
        clear H
        have H := H1
        clear H1
        simp only [Option.some.injEq, Prod.mk.injEq] at H
        obtain ⟨rfl, rfl, rfl⟩ := H
        go_enter Try.func50, Try.ntmps50
        go_wp2_with (first | ((with_reducible refine gDs (N := 2) rfl ?_); refine bEv ?hg (N := 2) ?hd (cs := #[.int .i64 a0_0, .int .i64 a0_1]) (t := 28) ?hr ?_; (case hd => rfl); (case hg => rfl); (case hr => first | (go_simp; done) | (go_simp; rfl)); intro gb142 hg w11 hbox hb; have n0_ := AsZ.mk (tBl (by repeat (first | (with_reducible first | exact HB.out | apply aBl | apply pBd | apply dBl) | exact HB.out)) hb); have n1_ := AsZ.mk (hbox); have n2_ := AsZ.mk ((by rw [hg]; exact (zBl (by repeat (first | (with_reducible first | exact HB.out | apply aBl | apply pBd | apply dBl) | exact HB.out))) : w.heap.size ≤ gb142)); have n3_ := AsZ.mk ((by rw [hg]; exact (zBl (by repeat (first | (with_reducible first | exact HB.out | apply aBl | apply pBd | apply dBl) | exact HB.out))) : w.heap.size ≤ gb142)); clear HB; have HB := n0_; have BK142 := n1_; have GW142 := n2_; have GE142 := n3_; clear n0_ n1_ n2_ n3_; clear hb hbox hg) | ((with_reducible refine gDs (N := 3) rfl ?_); refine bEv ?hg (N := 3) ?hd (cs := #[.int .i64 a1_0, .int .i64 a1_1]) (t := 28) ?hr ?_; (case hd => rfl); (case hg => rfl); (case hr => first | (go_simp; done) | (go_simp; rfl)); intro gb143 hg w12 hbox hb; have n0_ := AsZ.mk (bBl (g := gb142) (o := .cells #[.int .i64 a0_0, .int .i64 a0_1] 28 (0, 0)) (by (with_reducible repeat (first | refine bDn ?_ _ | refine bDr ?_ | refine bAl ?_ _)); exact BK142.out) hb); have n1_ := AsZ.mk (tBl (by repeat (first | (with_reducible first | exact HB.out | apply aBl | apply pBd | apply dBl | refine sBl ?_ GE142.out) | exact HB.out)) hb); have n2_ := AsZ.mk (hbox); have n3_ := AsZ.mk ((by rw [hg]; exact (zBl (by repeat (first | (with_reducible first | exact HB.out | apply aBl | apply pBd | apply dBl | refine sBl ?_ GE142.out) | exact HB.out))) : w.heap.size ≤ gb143)); have n4_ := AsZ.mk ((by rw [hg]; exact (zBl (by repeat (first | (with_reducible first | exact HB.out | apply aBl | apply pBd | apply dBl | refine sBl ?_ GE142.out) | exact HB.out))) : w.heap.size ≤ gb143)); have n5_ := AsZ.mk ((by rw [hg]; exact Nat.ne_of_lt (bLt (g := gb142) (o := .cells #[.int .i64 a0_0, .int .i64 a0_1] 28 (0, 0)) (by (with_reducible repeat (first | refine bDn ?_ _ | refine bDr ?_ | refine bAl ?_ _)); exact BK142.out)) : gb142 ≠ gb143)); have n6_ := AsZ.mk ((by rw [hg]; exact Nat.ne_of_gt (bLt (g := gb142) (o := .cells #[.int .i64 a0_0, .int .i64 a0_1] 28 (0, 0)) (by (with_reducible repeat (first | refine bDn ?_ _ | refine bDr ?_ | refine bAl ?_ _)); exact BK142.out)) : gb143 ≠ gb142)); clear BK142; clear HB; have BK142 := n0_; have HB := n1_; have BK143 := n2_; have GW143 := n3_; have GE143 := n4_; have NB142_143 := n5_; have NB143_142 := n6_; clear n0_ n1_ n2_ n3_ n4_ n5_ n6_; clear hb hbox hg) | ((with_reducible refine gDs (N := 4) rfl ?_); refine bEv ?hg (N := 4) ?hd (cs := #[.int .i64 0, .int .i64 0]) (t := 28) ?hr ?_; (case hd => rfl); (case hg => rfl); (case hr => first | (go_simp; done) | (go_simp; rfl)); intro gb144 hg w13 hbox hb; have n0_ := AsZ.mk (bBl (g := gb142) (o := .cells #[.int .i64 a0_0, .int .i64 a0_1] 28 (0, 0)) (by (with_reducible repeat (first | refine bDn ?_ _ | refine bDr ?_ | refine bAl ?_ _)); exact BK142.out) hb); have n1_ := AsZ.mk (bBl (g := gb143) (o := .cells #[.int .i64 a1_0, .int .i64 a1_1] 28 (0, 0)) (by (with_reducible repeat (first | refine bDn ?_ _ | refine bDr ?_ | refine bAl ?_ _)); exact BK143.out) hb); have n2_ := AsZ.mk (tBl (by repeat (first | (with_reducible first | exact HB.out | apply aBl | apply pBd | apply dBl | refine sBl ?_ GE142.out | refine sBl ?_ GE143.out) | exact HB.out)) hb); have n3_ := AsZ.mk (hbox); have n4_ := AsZ.mk ((by rw [hg]; exact (zBl (by repeat (first | (with_reducible first | exact HB.out | apply aBl | apply pBd | apply dBl | refine sBl ?_ GE142.out | refine sBl ?_ GE143.out) | exact HB.out))) : w.heap.size ≤ gb144)); have n5_ := AsZ.mk ((by rw [hg]; exact (zBl (by repeat (first | (with_reducible first | exact HB.out | apply aBl | apply pBd | apply dBl | refine sBl ?_ GE142.out | refine sBl ?_ GE143.out) | exact HB.out))) : w.heap.size ≤ gb144)); have n6_ := AsZ.mk ((by rw [hg]; exact Nat.ne_of_lt (bLt (g := gb142) (o := .cells #[.int .i64 a0_0, .int .i64 a0_1] 28 (0, 0)) (by (with_reducible repeat (first | refine bDn ?_ _ | refine bDr ?_ | refine bAl ?_ _)); exact BK142.out)) : gb142 ≠ gb144)); have n7_ := AsZ.mk ((by rw [hg]; exact Nat.ne_of_gt (bLt (g := gb142) (o := .cells #[.int .i64 a0_0, .int .i64 a0_1] 28 (0, 0)) (by (with_reducible repeat (first | refine bDn ?_ _ | refine bDr ?_ | refine bAl ?_ _)); exact BK142.out)) : gb144 ≠ gb142)); have n8_ := AsZ.mk ((by rw [hg]; exact Nat.ne_of_lt (bLt (g := gb143) (o := .cells #[.int .i64 a1_0, .int .i64 a1_1] 28 (0, 0)) (by (with_reducible repeat (first | refine bDn ?_ _ | refine bDr ?_ | refine bAl ?_ _)); exact BK143.out)) : gb143 ≠ gb144)); have n9_ := AsZ.mk ((by rw [hg]; exact Nat.ne_of_gt (bLt (g := gb143) (o := .cells #[.int .i64 a1_0, .int .i64 a1_1] 28 (0, 0)) (by (with_reducible repeat (first | refine bDn ?_ _ | refine bDr ?_ | refine bAl ?_ _)); exact BK143.out)) : gb144 ≠ gb143)); clear BK142; clear BK143; clear HB; have BK142 := n0_; have BK143 := n1_; have HB := n2_; have BK144 := n3_; have GW144 := n4_; have GE144 := n5_; have NB142_144 := n6_; have NB144_142 := n7_; have NB143_144 := n8_; have NB144_143 := n9_; clear n0_ n1_ n2_ n3_ n4_ n5_ n6_ n7_ n8_ n9_; clear hb hbox hg; have hnb14 := NB142_143.out; have hnc14 := NB143_142.out; have hnb15 := NB142_144.out; have hnc15 := NB144_142.out; have hcz16_0 : w13.cell? ⟨gb142, 0, none⟩ = some (.int .i64 a0_0) := (bCe BK142.out 0).trans rfl; have hcz16_1 : w13.cell? ⟨gb142, 1, none⟩ = some (.int .i64 a0_1) := (bCe BK142.out 1).trans rfl; have hfz16_0 := bFz BK142.out 0; have hfz16_1 := bFz BK142.out 1; have hnb17 := NB143_144.out; have hnc17 := NB144_143.out; have hcz18_0 : w13.cell? ⟨gb143, 0, none⟩ = some (.int .i64 a1_0) := (bCe BK143.out 0).trans rfl; have hcz18_1 : w13.cell? ⟨gb143, 1, none⟩ = some (.int .i64 a1_1) := (bCe BK143.out 1).trans rfl; have hfz18_0 := bFz BK143.out 0; have hfz18_1 := bFz BK143.out 1) | ((with_reducible refine gDs (N := 6) rfl ?_); refine bEv ?hg (N := 6) ?hd (cs := #[.int .i64 0, .int .i64 0]) (t := 28) ?hr ?_; (case hd => rfl); (case hg => rfl); (case hr => first | (go_simp; done) | (go_simp; rfl)); intro gb145 hg w19 hbox hb; have n0_ := AsZ.mk (bBl (g := gb142) (o := .cells #[.int .i64 a0_0, .int .i64 a0_1] 28 (0, 0)) (by (with_reducible repeat (first | refine bDn ?_ _ | refine bDr ?_ | refine bAl ?_ _)); exact BK142.out) hb); have n1_ := AsZ.mk (bBl (g := gb143) (o := .cells #[.int .i64 a1_0, .int .i64 a1_1] 28 (0, 0)) (by (with_reducible repeat (first | refine bDn ?_ _ | refine bDr ?_ | refine bAl ?_ _)); exact BK143.out) hb); have n2_ := AsZ.mk (bBl (g := gb144) (o := .cells #[.int .i64 0, .int .i64 0] 28 (0, 0)) (by (with_reducible repeat (first | refine bDn ?_ _ | refine bDr ?_ | refine bAl ?_ _)); exact BK144.out) hb); have n3_ := AsZ.mk (tBl (by repeat (first | (with_reducible first | exact HB.out | apply aBl | apply pBd | apply dBl | refine sBl ?_ GE142.out | refine sBl ?_ GE143.out | refine sBl ?_ GE144.out) | exact HB.out)) hb); have n4_ := AsZ.mk (hbox); have n5_ := AsZ.mk ((by rw [hg]; exact (zBl (by repeat (first | (with_reducible first | exact HB.out | apply aBl | apply pBd | apply dBl | refine sBl ?_ GE142.out | refine sBl ?_ GE143.out | refine sBl ?_ GE144.out) | exact HB.out))) : w.heap.size ≤ gb145)); have n6_ := AsZ.mk ((by rw [hg]; exact (zBl (by repeat (first | (with_reducible first | exact HB.out | apply aBl | apply pBd | apply dBl | refine sBl ?_ GE142.out | refine sBl ?_ GE143.out | refine sBl ?_ GE144.out) | exact HB.out))) : w.heap.size ≤ gb145)); have n7_ := AsZ.mk ((by rw [hg]; exact Nat.ne_of_lt (bLt (g := gb142) (o := .cells #[.int .i64 a0_0, .int .i64 a0_1] 28 (0, 0)) (by (with_reducible repeat (first | refine bDn ?_ _ | refine bDr ?_ | refine bAl ?_ _)); exact BK142.out)) : gb142 ≠ gb145)); have n8_ := AsZ.mk ((by rw [hg]; exact Nat.ne_of_gt (bLt (g := gb142) (o := .cells #[.int .i64 a0_0, .int .i64 a0_1] 28 (0, 0)) (by (with_reducible repeat (first | refine bDn ?_ _ | refine bDr ?_ | refine bAl ?_ _)); exact BK142.out)) : gb145 ≠ gb142)); have n9_ := AsZ.mk ((by rw [hg]; exact Nat.ne_of_lt (bLt (g := gb143) (o := .cells #[.int .i64 a1_0, .int .i64 a1_1] 28 (0, 0)) (by (with_reducible repeat (first | refine bDn ?_ _ | refine bDr ?_ | refine bAl ?_ _)); exact BK143.out)) : gb143 ≠ gb145)); have n10_ := AsZ.mk ((by rw [hg]; exact Nat.ne_of_gt (bLt (g := gb143) (o := .cells #[.int .i64 a1_0, .int .i64 a1_1] 28 (0, 0)) (by (with_reducible repeat (first | refine bDn ?_ _ | refine bDr ?_ | refine bAl ?_ _)); exact BK143.out)) : gb145 ≠ gb143)); have n11_ := AsZ.mk ((by rw [hg]; exact Nat.ne_of_lt (bLt (g := gb144) (o := .cells #[.int .i64 0, .int .i64 0] 28 (0, 0)) (by (with_reducible repeat (first | refine bDn ?_ _ | refine bDr ?_ | refine bAl ?_ _)); exact BK144.out)) : gb144 ≠ gb145)); have n12_ := AsZ.mk ((by rw [hg]; exact Nat.ne_of_gt (bLt (g := gb144) (o := .cells #[.int .i64 0, .int .i64 0] 28 (0, 0)) (by (with_reducible repeat (first | refine bDn ?_ _ | refine bDr ?_ | refine bAl ?_ _)); exact BK144.out)) : gb145 ≠ gb144)); clear BK142; clear BK143; clear BK144; clear HB; have BK142 := n0_; have BK143 := n1_; have BK144 := n2_; have HB := n3_; have BK145 := n4_; have GW145 := n5_; have GE145 := n6_; have NB142_145 := n7_; have NB145_142 := n8_; have NB143_145 := n9_; have NB145_143 := n10_; have NB144_145 := n11_; have NB145_144 := n12_; clear n0_ n1_ n2_ n3_ n4_ n5_ n6_ n7_ n8_ n9_ n10_ n11_ n12_; clear hb hbox hg; have hnb20 := NB145_142.out; have hnc20 := NB142_145.out; have hnb21 := NB145_143.out; have hnc21 := NB143_145.out; have hnb22 := NB145_144.out; have hnc22 := NB144_145.out; have hcz23_0 : w19.cell? ⟨gb145, 0, none⟩ = some (.int .i64 0) := (bCe BK145.out 0).trans rfl; have hcz23_1 : w19.cell? ⟨gb145, 1, none⟩ = some (.int .i64 0) := (bCe BK145.out 1).trans rfl; have hfz23_0 := bFz BK145.out 0; have hfz23_1 := bFz BK145.out 1; have hcz24_0 : w19.cell? ⟨gb142, 0, none⟩ = some (.int .i64 a0_0) := (bCe BK142.out 0).trans rfl; have hcz24_1 : w19.cell? ⟨gb142, 1, none⟩ = some (.int .i64 a0_1) := (bCe BK142.out 1).trans rfl; have hfz24_0 := bFz BK142.out 0; have hfz24_1 := bFz BK142.out 1) | ((with_reducible refine gCa (f := 55) rfl ?_); refine gLl (some 19) rfl rfl Try.func55 (by kernel_rfl) rfl #[.agg #[.int .i64 a0_0, .int .i64 a0_1]] rfl (by (try simp only [List.map_toArray, List.map_cons, List.map_nil]); first | done | rfl | (simp only [List.length_drop, List.length_take]; rfl)) ?_; (with_reducible refine (span_Right.calls a0_0 a0_1 true _ A5.out).mono ?_); rintro e w25 ⟨rfl, hb⟩; refine ⟨_, rfl, ?_⟩; have n0_ := AsZ.mk (bBl (g := gb142) (o := .cells #[.int .i64 a0_0, .int .i64 a0_1] 28 (0, 0)) (by (with_reducible repeat (first | refine bDn ?_ _ | refine bDr ?_ | refine bAl ?_ _)); refine bFr ?_ NB142_145.out _; (with_reducible repeat (first | refine bDn ?_ _ | refine bDr ?_ | refine bAl ?_ _)); refine bFr ?_ NB142_145.out _; (with_reducible repeat (first | refine bDn ?_ _ | refine bDr ?_ | refine bAl ?_ _)); exact BK142.out) hb); have n1_ := AsZ.mk (bBl (g := gb143) (o := .cells #[.int .i64 a1_0, .int .i64 a1_1] 28 (0, 0)) (by (with_reducible repeat (first | refine bDn ?_ _ | refine bDr ?_ | refine bAl ?_ _)); refine bFr ?_ NB143_145.out _; (with_reducible repeat (first | refine bDn ?_ _ | refine bDr ?_ | refine bAl ?_ _)); refine bFr ?_ NB143_145.out _; (with_reducible repeat (first | refine bDn ?_ _ | refine bDr ?_ | refine bAl ?_ _)); exact BK143.out) hb); have n2_ := AsZ.mk (bBl (g := gb144) (o := .cells #[.int .i64 0, .int .i64 0] 28 (0, 0)) (by (with_reducible repeat (first | refine bDn ?_ _ | refine bDr ?_ | refine bAl ?_ _)); refine bFr ?_ NB144_145.out _; (with_reducible repeat (first | refine bDn ?_ _ | refine bDr ?_ | refine bAl ?_ _)); refine bFr ?_ NB144_145.out _; (with_reducible repeat (first | refine bDn ?_ _ | refine bDr ?_ | refine bAl ?_ _)); exact BK144.out) hb); have n3_ := AsZ.mk (bBl (g := gb145) (o := .cells #[.int .i64 ji3, .int .i64 ji4] 28 (0, 0)) (by (with_reducible repeat (first | refine bDn ?_ _ | refine bDr ?_ | refine bAl ?_ _)); refine bPu (cs := #[.int .i64 ji3, .int .i64 0]) ?_ 1 _ rfl; (with_reducible repeat (first | refine bDn ?_ _ | refine bDr ?_ | refine bAl ?_ _)); refine bPu (cs := #[.int .i64 0, .int .i64 0]) ?_ 0 _ rfl; (with_reducible repeat (first | refine bDn ?_ _ | refine bDr ?_ | refine bAl ?_ _)); exact BK145.out) hb); have n4_ := AsZ.mk (tBl (by repeat (first | (with_reducible first | exact HB.out | apply aBl | apply pBd | apply dBl | refine sBl ?_ GE142.out | refine sBl ?_ GE143.out | refine sBl ?_ GE144.out | refine sBl ?_ GE145.out) | exact HB.out)) hb); clear BK142; clear BK143; clear BK144; clear BK145; clear HB; have BK142 := n0_; have BK143 := n1_; have BK144 := n2_; have BK145 := n3_; have HB := n4_; clear n0_ n1_ n2_ n3_ n4_; (try clear hb); (try clear hb2); (try clear hk); (try clear hi); have hcz26_0 : w25.cell? ⟨gb143, 0, none⟩ = some (.int .i64 a1_0) := (bCe BK143.out 0).trans rfl; have hcz26_1 : w25.cell? ⟨gb143, 1, none⟩ = some (.int .i64 a1_1) := (bCe BK143.out 1).trans rfl; have hfz26_0 := bFz BK143.out 0; have hfz26_1 := bFz BK143.out 1) | (go_at_call 55; (with_reducible refine (span_Right.calls a1_0 a1_1 true _ A7.out).mono ?_); rintro e w27 ⟨rfl, hb⟩; have n0_ := AsZ.mk (bBl (g := gb142) (o := .cells #[.int .i64 a0_0, .int .i64 a0_1] 28 (0, 0)) (by (with_reducible repeat (first | refine bDn ?_ _ | refine bDr ?_ | refine bAl ?_ _)); exact BK142.out) hb); have n1_ := AsZ.mk (bBl (g := gb143) (o := .cells #[.int .i64 a1_0, .int .i64 a1_1] 28 (0, 0)) (by (with_reducible repeat (first | refine bDn ?_ _ | refine bDr ?_ | refine bAl ?_ _)); exact BK143.out) hb); have n2_ := AsZ.mk (bBl (g := gb144) (o := .cells #[.int .i64 0, .int .i64 0] 28 (0, 0)) (by (with_reducible repeat (first | refine bDn ?_ _ | refine bDr ?_ | refine bAl ?_ _)); exact BK144.out) hb); have n3_ := AsZ.mk (bBl (g := gb145) (o := .cells #[.int .i64 ji3, .int .i64 ji4] 28 (0, 0)) (by (with_reducible repeat (first | refine bDn ?_ _ | refine bDr ?_ | refine bAl ?_ _)); exact BK145.out) hb); have n4_ := AsZ.mk (tBl (by repeat (first | (with_reducible first | exact HB.out | apply aBl | apply pBd | apply dBl | refine sBl ?_ GE142.out | refine sBl ?_ GE143.out | refine sBl ?_ GE144.out | refine sBl ?_ GE145.out) | exact HB.out)) hb); clear BK142; clear BK143; clear BK144; clear BK145; clear HB; have BK142 := n0_; have BK143 := n1_; have BK144 := n2_; have BK145 := n3_; have HB := n4_; clear n0_ n1_ n2_ n3_ n4_; (try clear hb); (try clear hb2); (try clear hk); (try clear hi); have hcz28_0 : w27.cell? ⟨gb145, 0, none⟩ = some (.int .i64 ji3) := (bCe BK145.out 0).trans rfl; have hcz28_1 : w27.cell? ⟨gb145, 1, none⟩ = some (.int .i64 ji4) := (bCe BK145.out 1).trans rfl; have hfz28_0 := bFz BK145.out 0; have hfz28_1 := bFz BK145.out 1) | (go_at_call 55; (with_reducible refine (span_Right.calls ji3 ji4 true _ A9.out).mono ?_); rintro e w29 ⟨rfl, hb⟩; have n0_ := AsZ.mk (bBl (g := gb142) (o := .cells #[.int .i64 a0_0, .int .i64 a0_1] 28 (0, 0)) (by (with_reducible repeat (first | refine bDn ?_ _ | refine bDr ?_ | refine bAl ?_ _)); exact BK142.out) hb); have n1_ := AsZ.mk (bBl (g := gb143) (o := .cells #[.int .i64 a1_0, .int .i64 a1_1] 28 (0, 0)) (by (with_reducible repeat (first | refine bDn ?_ _ | refine bDr ?_ | refine bAl ?_ _)); exact BK143.out) hb); have n2_ := AsZ.mk (bBl (g := gb144) (o := .cells #[.int .i64 0, .int .i64 0] 28 (0, 0)) (by (with_reducible repeat (first | refine bDn ?_ _ | refine bDr ?_ | refine bAl ?_ _)); exact BK144.out) hb); have n3_ := AsZ.mk (bBl (g := gb145) (o := .cells #[.int .i64 ji3, .int .i64 ji4] 28 (0, 0)) (by (with_reducible repeat (first | refine bDn ?_ _ | refine bDr ?_ | refine bAl ?_ _)); exact BK145.out) hb); have n4_ := AsZ.mk (tBl (by repeat (first | (with_reducible first | exact HB.out | apply aBl | apply pBd | apply dBl | refine sBl ?_ GE142.out | refine sBl ?_ GE143.out | refine sBl ?_ GE144.out | refine sBl ?_ GE145.out) | exact HB.out)) hb); clear BK142; clear BK143; clear BK144; clear BK145; clear HB; have BK142 := n0_; have BK143 := n1_; have BK144 := n2_; have BK145 := n3_; have HB := n4_; clear n0_ n1_ n2_ n3_ n4_; (try clear hb); (try clear hb2); (try clear hk); (try clear hi); have hcz30_0 : w29.cell? ⟨gb145, 0, none⟩ = some (.int .i64 ji3) := (bCe BK145.out 0).trans rfl; have hcz30_1 : w29.cell? ⟨gb145, 1, none⟩ = some (.int .i64 ji4) := (bCe BK145.out 1).trans rfl; have hfz30_0 := bFz BK145.out 0; have hfz30_1 := bFz BK145.out 1; have hcz31_0 : w29.cell? ⟨gb144, 0, none⟩ = some (.int .i64 0) := (bCe BK144.out 0).trans rfl; have hcz31_1 : w29.cell? ⟨gb144, 1, none⟩ = some (.int .i64 0) := (bCe BK144.out 1).trans rfl; have hfz31_0 := bFz BK144.out 0; have hfz31_1 := bFz BK144.out 1))
        refine bodyPost_ret (results_ct rfl _ _ gb144 28 #[.int .i64 ji3, .int .i64 ji4] (0, 0) _ rfl (by (with_reducible repeat (first | refine bDn ?_ _ | refine bDr ?_ | refine bAl ?_ _)); refine bPu (cs := #[.int .i64 ji3, .int .i64 0]) ?_ 1 _ rfl; (with_reducible repeat (first | refine bDn ?_ _ | refine bDr ?_ | refine bAl ?_ _)); refine bPu (cs := #[.int .i64 0, .int .i64 0]) ?_ 0 _ rfl; (with_reducible repeat (first | refine bDn ?_ _ | refine bDr ?_ | refine bAl ?_ _)); exact BK144.out) Try.underlying28 rfl (by kernel_rfl)) rfl ?_
        exact ⟨by first | rfl | exact nEm _ | exact eEm _ | (simp [eWn, eWs] <;> rfl) | (simp only [← hji3, ← hji4]; first | rfl | (simp [eWn, eWs] <;> rfl)) | (simp [*, eWn, eWs] <;> rfl), by repeat (first | (with_reducible first | exact HB.out | apply aBl | apply pBd | apply dBl | refine sBl ?_ GE142.out | refine sBl ?_ GE143.out | refine sBl ?_ GE144.out | refine sBl ?_ GE145.out) | exact HB.out)⟩
      · replace c10 := Bool.eq_false_iff.mpr c10
        subst c10
        have H1 : (some (0, 0, false)) = some (r1, r2, r3) := by rw [if_neg (show ¬ (false = true) by decide)] at H; exact H
        clear H
        have H := H1
        clear H1
        simp only [Option.some.injEq, Prod.mk.injEq] at H
        obtain ⟨rfl, rfl, rfl⟩ := H
        go_enter Try.func50, Try.ntmps50
        go_wp2_with (first | ((with_reducible refine gDs (N := 2) rfl ?_); refine bEv ?hg (N := 2) ?hd (cs := #[.int .i64 a0_0, .int .i64 a0_1]) (t := 28) ?hr ?_; (case hd => rfl); (case hg => rfl); (case hr => first | (go_simp; done) | (go_simp; rfl)); intro gb142 hg w32 hbox hb; have n0_ := AsZ.mk (tBl (by repeat (first | (with_reducible first | exact HB.out | apply aBl | apply pBd | apply dBl) | exact HB.out)) hb); have n1_ := AsZ.mk (hbox); have n2_ := AsZ.mk ((by rw [hg]; exact (zBl (by repeat (first | (with_reducible first | exact HB.out | apply aBl | apply pBd | apply dBl) | exact HB.out))) : w.heap.size ≤ gb142)); have n3_ := AsZ.mk ((by rw [hg]; exact (zBl (by repeat (first | (with_reducible first | exact HB.out | apply aBl | apply pBd | apply dBl) | exact HB.out))) : w.heap.size ≤ gb142)); clear HB; have HB := n0_; have BK142 := n1_; have GW142 := n2_; have GE142 := n3_; clear n0_ n1_ n2_ n3_; clear hb hbox hg) | ((with_reducible refine gDs (N := 3) rfl ?_); refine bEv ?hg (N := 3) ?hd (cs := #[.int .i64 a1_0, .int .i64 a1_1]) (t := 28) ?hr ?_; (case hd => rfl); (case hg => rfl); (case hr => first | (go_simp; done) | (go_simp; rfl)); intro gb143 hg w33 hbox hb; have n0_ := AsZ.mk (bBl (g := gb142) (o := .cells #[.int .i64 a0_0, .int .i64 a0_1] 28 (0, 0)) (by (with_reducible repeat (first | refine bDn ?_ _ | refine bDr ?_ | refine bAl ?_ _)); exact BK142.out) hb); have n1_ := AsZ.mk (tBl (by repeat (first | (with_reducible first | exact HB.out | apply aBl | apply pBd | apply dBl | refine sBl ?_ GE142.out) | exact HB.out)) hb); have n2_ := AsZ.mk (hbox); have n3_ := AsZ.mk ((by rw [hg]; exact (zBl (by repeat (first | (with_reducible first | exact HB.out | apply aBl | apply pBd | apply dBl | refine sBl ?_ GE142.out) | exact HB.out))) : w.heap.size ≤ gb143)); have n4_ := AsZ.mk ((by rw [hg]; exact (zBl (by repeat (first | (with_reducible first | exact HB.out | apply aBl | apply pBd | apply dBl | refine sBl ?_ GE142.out) | exact HB.out))) : w.heap.size ≤ gb143)); have n5_ := AsZ.mk ((by rw [hg]; exact Nat.ne_of_lt (bLt (g := gb142) (o := .cells #[.int .i64 a0_0, .int .i64 a0_1] 28 (0, 0)) (by (with_reducible repeat (first | refine bDn ?_ _ | refine bDr ?_ | refine bAl ?_ _)); exact BK142.out)) : gb142 ≠ gb143)); have n6_ := AsZ.mk ((by rw [hg]; exact Nat.ne_of_gt (bLt (g := gb142) (o := .cells #[.int .i64 a0_0, .int .i64 a0_1] 28 (0, 0)) (by (with_reducible repeat (first | refine bDn ?_ _ | refine bDr ?_ | refine bAl ?_ _)); exact BK142.out)) : gb143 ≠ gb142)); clear BK142; clear HB; have BK142 := n0_; have HB := n1_; have BK143 := n2_; have GW143 := n3_; have GE143 := n4_; have NB142_143 := n5_; have NB143_142 := n6_; clear n0_ n1_ n2_ n3_ n4_ n5_ n6_; clear hb hbox hg) | ((with_reducible refine gDs (N := 4) rfl ?_); refine bEv ?hg (N := 4) ?hd (cs := #[.int .i64 0, .int .i64 0]) (t := 28) ?hr ?_; (case hd => rfl); (case hg => rfl); (case hr => first | (go_simp; done) | (go_simp; rfl)); intro gb144 hg w34 hbox hb; have n0_ := AsZ.mk (bBl (g := gb142) (o := .cells #[.int .i64 a0_0, .int .i64 a0_1] 28 (0, 0)) (by (with_reducible repeat (first | refine bDn ?_ _ | refine bDr ?_ | refine bAl ?_ _)); exact BK142.out) hb); have n1_ := AsZ.mk (bBl (g := gb143) (o := .cells #[.int .i64 a1_0, .int .i64 a1_1] 28 (0, 0)) (by (with_reducible repeat (first | refine bDn ?_ _ | refine bDr ?_ | refine bAl ?_ _)); exact BK143.out) hb); have n2_ := AsZ.mk (tBl (by repeat (first | (with_reducible first | exact HB.out | apply aBl | apply pBd | apply dBl | refine sBl ?_ GE142.out | refine sBl ?_ GE143.out) | exact HB.out)) hb); have n3_ := AsZ.mk (hbox); have n4_ := AsZ.mk ((by rw [hg]; exact (zBl (by repeat (first | (with_reducible first | exact HB.out | apply aBl | apply pBd | apply dBl | refine sBl ?_ GE142.out | refine sBl ?_ GE143.out) | exact HB.out))) : w.heap.size ≤ gb144)); have n5_ := AsZ.mk ((by rw [hg]; exact (zBl (by repeat (first | (with_reducible first | exact HB.out | apply aBl | apply pBd | apply dBl | refine sBl ?_ GE142.out | refine sBl ?_ GE143.out) | exact HB.out))) : w.heap.size ≤ gb144)); have n6_ := AsZ.mk ((by rw [hg]; exact Nat.ne_of_lt (bLt (g := gb142) (o := .cells #[.int .i64 a0_0, .int .i64 a0_1] 28 (0, 0)) (by (with_reducible repeat (first | refine bDn ?_ _ | refine bDr ?_ | refine bAl ?_ _)); exact BK142.out)) : gb142 ≠ gb144)); have n7_ := AsZ.mk ((by rw [hg]; exact Nat.ne_of_gt (bLt (g := gb142) (o := .cells #[.int .i64 a0_0, .int .i64 a0_1] 28 (0, 0)) (by (with_reducible repeat (first | refine bDn ?_ _ | refine bDr ?_ | refine bAl ?_ _)); exact BK142.out)) : gb144 ≠ gb142)); have n8_ := AsZ.mk ((by rw [hg]; exact Nat.ne_of_lt (bLt (g := gb143) (o := .cells #[.int .i64 a1_0, .int .i64 a1_1] 28 (0, 0)) (by (with_reducible repeat (first | refine bDn ?_ _ | refine bDr ?_ | refine bAl ?_ _)); exact BK143.out)) : gb143 ≠ gb144)); have n9_ := AsZ.mk ((by rw [hg]; exact Nat.ne_of_gt (bLt (g := gb143) (o := .cells #[.int .i64 a1_0, .int .i64 a1_1] 28 (0, 0)) (by (with_reducible repeat (first | refine bDn ?_ _ | refine bDr ?_ | refine bAl ?_ _)); exact BK143.out)) : gb144 ≠ gb143)); clear BK142; clear BK143; clear HB; have BK142 := n0_; have BK143 := n1_; have HB := n2_; have BK144 := n3_; have GW144 := n4_; have GE144 := n5_; have NB142_144 := n6_; have NB144_142 := n7_; have NB143_144 := n8_; have NB144_143 := n9_; clear n0_ n1_ n2_ n3_ n4_ n5_ n6_ n7_ n8_ n9_; clear hb hbox hg; have hnb35 := NB142_143.out; have hnc35 := NB143_142.out; have hnb36 := NB142_144.out; have hnc36 := NB144_142.out; have hcz37_0 : w34.cell? ⟨gb142, 0, none⟩ = some (.int .i64 a0_0) := (bCe BK142.out 0).trans rfl; have hcz37_1 : w34.cell? ⟨gb142, 1, none⟩ = some (.int .i64 a0_1) := (bCe BK142.out 1).trans rfl; have hfz37_0 := bFz BK142.out 0; have hfz37_1 := bFz BK142.out 1; have hnb38 := NB143_144.out; have hnc38 := NB144_143.out; have hcz39_0 : w34.cell? ⟨gb143, 0, none⟩ = some (.int .i64 a1_0) := (bCe BK143.out 0).trans rfl; have hcz39_1 : w34.cell? ⟨gb143, 1, none⟩ = some (.int .i64 a1_1) := (bCe BK143.out 1).trans rfl; have hfz39_0 := bFz BK143.out 0; have hfz39_1 := bFz BK143.out 1) | ((with_reducible refine gDs (N := 6) rfl ?_); refine bEv ?hg (N := 6) ?hd (cs := #[.int .i64 0, .int .i64 0]) (t := 28) ?hr ?_; (case hd => rfl); (case hg => rfl); (case hr => first | (go_simp; done) | (go_simp; rfl)); intro gb145 hg w40 hbox hb; have n0_ := AsZ.mk (bBl (g := gb142) (o := .cells #[.int .i64 a0_0, .int .i64 a0_1] 28 (0, 0)) (by (with_reducible repeat (first | refine bDn ?_ _ | refine bDr ?_ | refine bAl ?_ _)); exact BK142.out) hb); have n1_ := AsZ.mk (bBl (g := gb143) (o := .cells #[.int .i64 a1_0, .int .i64 a1_1] 28 (0, 0)) (by (with_reducible repeat (first | refine bDn ?_ _ | refine bDr ?_ | refine bAl ?_ _)); exact BK143.out) hb); have n2_ := AsZ.mk (bBl (g := gb144) (o := .cells #[.int .i64 0, .int .i64 0] 28 (0, 0)) (by (with_reducible repeat (first | refine bDn ?_ _ | refine bDr ?_ | refine bAl ?_ _)); exact BK144.out) hb); have n3_ := AsZ.mk (tBl (by repeat (first | (with_reducible first | exact HB.out | apply aBl | apply pBd | apply dBl | refine sBl ?_ GE142.out | refine sBl ?_ GE143.out | refine sBl ?_ GE144.out) | exact HB.out)) hb); have n4_ := AsZ.mk (hbox); have n5_ := AsZ.mk ((by rw [hg]; exact (zBl (by repeat (first | (with_reducible first | exact HB.out | apply aBl | apply pBd | apply dBl | refine sBl ?_ GE142.out | refine sBl ?_ GE143.out | refine sBl ?_ GE144.out) | exact HB.out))) : w.heap.size ≤ gb145)); have n6_ := AsZ.mk ((by rw [hg]; exact (zBl (by repeat (first | (with_reducible first | exact HB.out | apply aBl | apply pBd | apply dBl | refine sBl ?_ GE142.out | refine sBl ?_ GE143.out | refine sBl ?_ GE144.out) | exact HB.out))) : w.heap.size ≤ gb145)); have n7_ := AsZ.mk ((by rw [hg]; exact Nat.ne_of_lt (bLt (g := gb142) (o := .cells #[.int .i64 a0_0, .int .i64 a0_1] 28 (0, 0)) (by (with_reducible repeat (first | refine bDn ?_ _ | refine bDr ?_ | refine bAl ?_ _)); exact BK142.out)) : gb142 ≠ gb145)); have n8_ := AsZ.mk ((by rw [hg]; exact Nat.ne_of_gt (bLt (g := gb142) (o := .cells #[.int .i64 a0_0, .int .i64 a0_1] 28 (0, 0)) (by (with_reducible repeat (first | refine bDn ?_ _ | refine bDr ?_ | refine bAl ?_ _)); exact BK142.out)) : gb145 ≠ gb142)); have n9_ := AsZ.mk ((by rw [hg]; exact Nat.ne_of_lt (bLt (g := gb143) (o := .cells #[.int .i64 a1_0, .int .i64 a1_1] 28 (0, 0)) (by (with_reducible repeat (first | refine bDn ?_ _ | refine bDr ?_ | refine bAl ?_ _)); exact BK143.out)) : gb143 ≠ gb145)); have n10_ := AsZ.mk ((by rw [hg]; exact Nat.ne_of_gt (bLt (g := gb143) (o := .cells #[.int .i64 a1_0, .int .i64 a1_1] 28 (0, 0)) (by (with_reducible repeat (first | refine bDn ?_ _ | refine bDr ?_ | refine bAl ?_ _)); exact BK143.out)) : gb145 ≠ gb143)); have n11_ := AsZ.mk ((by rw [hg]; exact Nat.ne_of_lt (bLt (g := gb144) (o := .cells #[.int .i64 0, .int .i64 0] 28 (0, 0)) (by (with_reducible repeat (first | refine bDn ?_ _ | refine bDr ?_ | refine bAl ?_ _)); exact BK144.out)) : gb144 ≠ gb145)); have n12_ := AsZ.mk ((by rw [hg]; exact Nat.ne_of_gt (bLt (g := gb144) (o := .cells #[.int .i64 0, .int .i64 0] 28 (0, 0)) (by (with_reducible repeat (first | refine bDn ?_ _ | refine bDr ?_ | refine bAl ?_ _)); exact BK144.out)) : gb145 ≠ gb144)); clear BK142; clear BK143; clear BK144; clear HB; have BK142 := n0_; have BK143 := n1_; have BK144 := n2_; have HB := n3_; have BK145 := n4_; have GW145 := n5_; have GE145 := n6_; have NB142_145 := n7_; have NB145_142 := n8_; have NB143_145 := n9_; have NB145_143 := n10_; have NB144_145 := n11_; have NB145_144 := n12_; clear n0_ n1_ n2_ n3_ n4_ n5_ n6_ n7_ n8_ n9_ n10_ n11_ n12_; clear hb hbox hg; have hnb41 := NB145_142.out; have hnc41 := NB142_145.out; have hnb42 := NB145_143.out; have hnc42 := NB143_145.out; have hnb43 := NB145_144.out; have hnc43 := NB144_145.out; have hcz44_0 : w40.cell? ⟨gb145, 0, none⟩ = some (.int .i64 0) := (bCe BK145.out 0).trans rfl; have hcz44_1 : w40.cell? ⟨gb145, 1, none⟩ = some (.int .i64 0) := (bCe BK145.out 1).trans rfl; have hfz44_0 := bFz BK145.out 0; have hfz44_1 := bFz BK145.out 1; have hcz45_0 : w40.cell? ⟨gb142, 0, none⟩ = some (.int .i64 a0_0) := (bCe BK142.out 0).trans rfl; have hcz45_1 : w40.cell? ⟨gb142, 1, none⟩ = some (.int .i64 a0_1) := (bCe BK142.out 1).trans rfl; have hfz45_0 := bFz BK142.out 0; have hfz45_1 := bFz BK142.out 1) | ((with_reducible refine gCa (f := 55) rfl ?_); refine gLl (some 19) rfl rfl Try.func55 (by kernel_rfl) rfl #[.agg #[.int .i64 a0_0, .int .i64 a0_1]] rfl (by (try simp only [List.map_toArray, List.map_cons, List.map_nil]); first | done | rfl | (simp only [List.length_drop, List.length_take]; rfl)) ?_; (with_reducible refine (span_Right.calls a0_0 a0_1 true _ A5.out).mono ?_); rintro e w46 ⟨rfl, hb⟩; refine ⟨_, rfl, ?_⟩; have n0_ := AsZ.mk (bBl (g := gb142) (o := .cells #[.int .i64 a0_0, .int .i64 a0_1] 28 (0, 0)) (by (with_reducible repeat (first | refine bDn ?_ _ | refine bDr ?_ | refine bAl ?_ _)); refine bFr ?_ NB142_145.out _; (with_reducible repeat (first | refine bDn ?_ _ | refine bDr ?_ | refine bAl ?_ _)); refine bFr ?_ NB142_145.out _; (with_reducible repeat (first | refine bDn ?_ _ | refine bDr ?_ | refine bAl ?_ _)); exact BK142.out) hb); have n1_ := AsZ.mk (bBl (g := gb143) (o := .cells #[.int .i64 a1_0, .int .i64 a1_1] 28 (0, 0)) (by (with_reducible repeat (first | refine bDn ?_ _ | refine bDr ?_ | refine bAl ?_ _)); refine bFr ?_ NB143_145.out _; (with_reducible repeat (first | refine bDn ?_ _ | refine bDr ?_ | refine bAl ?_ _)); refine bFr ?_ NB143_145.out _; (with_reducible repeat (first | refine bDn ?_ _ | refine bDr ?_ | refine bAl ?_ _)); exact BK143.out) hb); have n2_ := AsZ.mk (bBl (g := gb144) (o := .cells #[.int .i64 0, .int .i64 0] 28 (0, 0)) (by (with_reducible repeat (first | refine bDn ?_ _ | refine bDr ?_ | refine bAl ?_ _)); refine bFr ?_ NB144_145.out _; (with_reducible repeat (first | refine bDn ?_ _ | refine bDr ?_ | refine bAl ?_ _)); refine bFr ?_ NB144_145.out _; (with_reducible repeat (first | refine bDn ?_ _ | refine bDr ?_ | refine bAl ?_ _)); exact BK144.out) hb); have n3_ := AsZ.mk (bBl (g := gb145) (o := .cells #[.int .i64 ji3, .int .i64 ji4] 28 (0, 0)) (by (with_reducible repeat (first | refine bDn ?_ _ | refine bDr ?_ | refine bAl ?_ _)); refine bPu (cs := #[.int .i64 ji3, .int .i64 0]) ?_ 1 _ rfl; (with_reducible repeat (first | refine bDn ?_ _ | refine bDr ?_ | refine bAl ?_ _)); refine bPu (cs := #[.int .i64 0, .int .i64 0]) ?_ 0 _ rfl; (with_reducible repeat (first | refine bDn ?_ _ | refine bDr ?_ | refine bAl ?_ _)); exact BK145.out) hb); have n4_ := AsZ.mk (tBl (by repeat (first | (with_reducible first | exact HB.out | apply aBl | apply pBd | apply dBl | refine sBl ?_ GE142.out | refine sBl ?_ GE143.out | refine sBl ?_ GE144.out | refine sBl ?_ GE145.out) | exact HB.out)) hb); clear BK142; clear BK143; clear BK144; clear BK145; clear HB; have BK142 := n0_; have BK143 := n1_; have BK144 := n2_; have BK145 := n3_; have HB := n4_; clear n0_ n1_ n2_ n3_ n4_; (try clear hb); (try clear hb2); (try clear hk); (try clear hi); have hcz47_0 : w46.cell? ⟨gb143, 0, none⟩ = some (.int .i64 a1_0) := (bCe BK143.out 0).trans rfl; have hcz47_1 : w46.cell? ⟨gb143, 1, none⟩ = some (.int .i64 a1_1) := (bCe BK143.out 1).trans rfl; have hfz47_0 := bFz BK143.out 0; have hfz47_1 := bFz BK143.out 1) | (go_at_call 55; (with_reducible refine (span_Right.calls a1_0 a1_1 true _ A7.out).mono ?_); rintro e w48 ⟨rfl, hb⟩; have n0_ := AsZ.mk (bBl (g := gb142) (o := .cells #[.int .i64 a0_0, .int .i64 a0_1] 28 (0, 0)) (by (with_reducible repeat (first | refine bDn ?_ _ | refine bDr ?_ | refine bAl ?_ _)); exact BK142.out) hb); have n1_ := AsZ.mk (bBl (g := gb143) (o := .cells #[.int .i64 a1_0, .int .i64 a1_1] 28 (0, 0)) (by (with_reducible repeat (first | refine bDn ?_ _ | refine bDr ?_ | refine bAl ?_ _)); exact BK143.out) hb); have n2_ := AsZ.mk (bBl (g := gb144) (o := .cells #[.int .i64 0, .int .i64 0] 28 (0, 0)) (by (with_reducible repeat (first | refine bDn ?_ _ | refine bDr ?_ | refine bAl ?_ _)); exact BK144.out) hb); have n3_ := AsZ.mk (bBl (g := gb145) (o := .cells #[.int .i64 ji3, .int .i64 ji4] 28 (0, 0)) (by (with_reducible repeat (first | refine bDn ?_ _ | refine bDr ?_ | refine bAl ?_ _)); exact BK145.out) hb); have n4_ := AsZ.mk (tBl (by repeat (first | (with_reducible first | exact HB.out | apply aBl | apply pBd | apply dBl | refine sBl ?_ GE142.out | refine sBl ?_ GE143.out | refine sBl ?_ GE144.out | refine sBl ?_ GE145.out) | exact HB.out)) hb); clear BK142; clear BK143; clear BK144; clear BK145; clear HB; have BK142 := n0_; have BK143 := n1_; have BK144 := n2_; have BK145 := n3_; have HB := n4_; clear n0_ n1_ n2_ n3_ n4_; (try clear hb); (try clear hb2); (try clear hk); (try clear hi); have hcz49_0 : w48.cell? ⟨gb145, 0, none⟩ = some (.int .i64 ji3) := (bCe BK145.out 0).trans rfl; have hcz49_1 : w48.cell? ⟨gb145, 1, none⟩ = some (.int .i64 ji4) := (bCe BK145.out 1).trans rfl; have hfz49_0 := bFz BK145.out 0; have hfz49_1 := bFz BK145.out 1) | (go_at_call 55; (with_reducible refine (span_Right.calls ji3 ji4 false _ A9.out).mono ?_); rintro e w50 ⟨rfl, hb⟩; have n0_ := AsZ.mk (bBl (g := gb142) (o := .cells #[.int .i64 a0_0, .int .i64 a0_1] 28 (0, 0)) (by (with_reducible repeat (first | refine bDn ?_ _ | refine bDr ?_ | refine bAl ?_ _)); exact BK142.out) hb); have n1_ := AsZ.mk (bBl (g := gb143) (o := .cells #[.int .i64 a1_0, .int .i64 a1_1] 28 (0, 0)) (by (with_reducible repeat (first | refine bDn ?_ _ | refine bDr ?_ | refine bAl ?_ _)); exact BK143.out) hb); have n2_ := AsZ.mk (bBl (g := gb144) (o := .cells #[.int .i64 0, .int .i64 0] 28 (0, 0)) (by (with_reducible repeat (first | refine bDn ?_ _ | refine bDr ?_ | refine bAl ?_ _)); exact BK144.out) hb); have n3_ := AsZ.mk (bBl (g := gb145) (o := .cells #[.int .i64 ji3, .int .i64 ji4] 28 (0, 0)) (by (with_reducible repeat (first | refine bDn ?_ _ | refine bDr ?_ | refine bAl ?_ _)); exact BK145.out) hb); have n4_ := AsZ.mk (tBl (by repeat (first | (with_reducible first | exact HB.out | apply aBl | apply pBd | apply dBl | refine sBl ?_ GE142.out | refine sBl ?_ GE143.out | refine sBl ?_ GE144.out | refine sBl ?_ GE145.out) | exact HB.out)) hb); clear BK142; clear BK143; clear BK144; clear BK145; clear HB; have BK142 := n0_; have BK143 := n1_; have BK144 := n2_; have BK145 := n3_; have HB := n4_; clear n0_ n1_ n2_ n3_ n4_; (try clear hb); (try clear hb2); (try clear hk); (try clear hi); have hcz51_0 : w50.cell? ⟨gb144, 0, none⟩ = some (.int .i64 0) := (bCe BK144.out 0).trans rfl; have hcz51_1 : w50.cell? ⟨gb144, 1, none⟩ = some (.int .i64 0) := (bCe BK144.out 1).trans rfl; have hfz51_0 := bFz BK144.out 0; have hfz51_1 := bFz BK144.out 1))
        refine bodyPost_ret (results_ct rfl _ _ gb144 28 #[.int .i64 0, .int .i64 0] (0, 0) _ rfl (by (with_reducible repeat (first | refine bDn ?_ _ | refine bDr ?_ | refine bAl ?_ _)); refine bPu (cs := #[.int .i64 0, .int .i64 0]) ?_ 1 _ rfl; (with_reducible repeat (first | refine bDn ?_ _ | refine bDr ?_ | refine bAl ?_ _)); refine bPu (cs := #[.int .i64 0, .int .i64 0]) ?_ 0 _ rfl; (with_reducible repeat (first | refine bDn ?_ _ | refine bDr ?_ | refine bAl ?_ _)); exact BK144.out) Try.underlying28 rfl (by kernel_rfl)) rfl ?_
        exact ⟨by first | rfl | exact nEm _ | exact eEm _ | (simp [eWn, eWs] <;> rfl) | (simp only [← hji3, ← hji4]; first | rfl | (simp [eWn, eWs] <;> rfl)) | (simp [*, eWn, eWs] <;> rfl), by repeat (first | (with_reducible first | exact HB.out | apply aBl | apply pBd | apply dBl | refine sBl ?_ GE142.out | refine sBl ?_ GE143.out | refine sBl ?_ GE144.out | refine sBl ?_ GE145.out) | exact HB.out)⟩
    · replace c8 := Bool.eq_false_iff.mpr c8
      subst c8
      have H1 : (some (0, 0, false)) = some (r1, r2, r3) := by rw [if_neg (show ¬ (false = true) by decide)] at H; exact H
      clear H
      have H := H1
      clear H1
      simp only [Option.some.injEq, Prod.mk.injEq] at H
      obtain ⟨rfl, rfl, rfl⟩ := H
      go_enter Try.func50, Try.ntmps50
      go_wp2_with (first | ((with_reducible refine gDs (N := 2) rfl ?_); refine bEv ?hg (N := 2) ?hd (cs := #[.int .i64 a0_0, .int .i64 a0_1]) (t := 28) ?hr ?_; (case hd => rfl); (case hg => rfl); (case hr => first | (go_simp; done) | (go_simp; rfl)); intro gb142 hg w52 hbox hb; have n0_ := AsZ.mk (tBl (by repeat (first | (with_reducible first | exact HB.out | apply aBl | apply pBd | apply dBl) | exact HB.out)) hb); have n1_ := AsZ.mk (hbox); have n2_ := AsZ.mk ((by rw [hg]; exact (zBl (by repeat (first | (with_reducible first | exact HB.out | apply aBl | apply pBd | apply dBl) | exact HB.out))) : w.heap.size ≤ gb142)); have n3_ := AsZ.mk ((by rw [hg]; exact (zBl (by repeat (first | (with_reducible first | exact HB.out | apply aBl | apply pBd | apply dBl) | exact HB.out))) : w.heap.size ≤ gb142)); clear HB; have HB := n0_; have BK142 := n1_; have GW142 := n2_; have GE142 := n3_; clear n0_ n1_ n2_ n3_; clear hb hbox hg) | ((with_reducible refine gDs (N := 3) rfl ?_); refine bEv ?hg (N := 3) ?hd (cs := #[.int .i64 a1_0, .int .i64 a1_1]) (t := 28) ?hr ?_; (case hd => rfl); (case hg => rfl); (case hr => first | (go_simp; done) | (go_simp; rfl)); intro gb143 hg w53 hbox hb; have n0_ := AsZ.mk (bBl (g := gb142) (o := .cells #[.int .i64 a0_0, .int .i64 a0_1] 28 (0, 0)) (by (with_reducible repeat (first | refine bDn ?_ _ | refine bDr ?_ | refine bAl ?_ _)); exact BK142.out) hb); have n1_ := AsZ.mk (tBl (by repeat (first | (with_reducible first | exact HB.out | apply aBl | apply pBd | apply dBl | refine sBl ?_ GE142.out) | exact HB.out)) hb); have n2_ := AsZ.mk (hbox); have n3_ := AsZ.mk ((by rw [hg]; exact (zBl (by repeat (first | (with_reducible first | exact HB.out | apply aBl | apply pBd | apply dBl | refine sBl ?_ GE142.out) | exact HB.out))) : w.heap.size ≤ gb143)); have n4_ := AsZ.mk ((by rw [hg]; exact (zBl (by repeat (first | (with_reducible first | exact HB.out | apply aBl | apply pBd | apply dBl | refine sBl ?_ GE142.out) | exact HB.out))) : w.heap.size ≤ gb143)); have n5_ := AsZ.mk ((by rw [hg]; exact Nat.ne_of_lt (bLt (g := gb142) (o := .cells #[.int .i64 a0_0, .int .i64 a0_1] 28 (0, 0)) (by (with_reducible repeat (first | refine bDn ?_ _ | refine bDr ?_ | refine bAl ?_ _)); exact BK142.out)) : gb142 ≠ gb143)); have n6_ := AsZ.mk ((by rw [hg]; exact Nat.ne_of_gt (bLt (g := gb142) (o := .cells #[.int .i64 a0_0, .int .i64 a0_1] 28 (0, 0)) (by (with_reducible repeat (first | refine bDn ?_ _ | refine bDr ?_ | refine bAl ?_ _)); exact BK142.out)) : gb143 ≠ gb142)); clear BK142; clear HB; have BK142 := n0_; have HB := n1_; have BK143 := n2_; have GW143 := n3_; have GE143 := n4_; have NB142_143 := n5_; have NB143_142 := n6_; clear n0_ n1_ n2_ n3_ n4_ n5_ n6_; clear hb hbox hg) | ((with_reducible refine gDs (N := 4) rfl ?_); refine bEv ?hg (N := 4) ?hd (cs := #[.int .i64 0, .int .i64 0]) (t := 28) ?hr ?_; (case hd => rfl); (case hg => rfl); (case hr => first | (go_simp; done) | (go_simp; rfl)); intro gb144 hg w54 hbox hb; have n0_ := AsZ.mk (bBl (g := gb142) (o := .cells #[.int .i64 a0_0, .int .i64 a0_1] 28 (0, 0)) (by (with_reducible repeat (first | refine bDn ?_ _ | refine bDr ?_ | refine bAl ?_ _)); exact BK142.out) hb); have n1_ := AsZ.mk (bBl (g := gb143) (o := .cells #[.int .i64 a1_0, .int .i64 a1_1] 28 (0, 0)) (by (with_reducible repeat (first | refine bDn ?_ _ | refine bDr ?_ | refine bAl ?_ _)); exact BK143.out) hb); have n2_ := AsZ.mk (tBl (by repeat (first | (with_reducible first | exact HB.out | apply aBl | apply pBd | apply dBl | refine sBl ?_ GE142.out | refine sBl ?_ GE143.out) | exact HB.out)) hb); have n3_ := AsZ.mk (hbox); have n4_ := AsZ.mk ((by rw [hg]; exact (zBl (by repeat (first | (with_reducible first | exact HB.out | apply aBl | apply pBd | apply dBl | refine sBl ?_ GE142.out | refine sBl ?_ GE143.out) | exact HB.out))) : w.heap.size ≤ gb144)); have n5_ := AsZ.mk ((by rw [hg]; exact (zBl (by repeat (first | (with_reducible first | exact HB.out | apply aBl | apply pBd | apply dBl | refine sBl ?_ GE142.out | refine sBl ?_ GE143.out) | exact HB.out))) : w.heap.size ≤ gb144)); have n6_ := AsZ.mk ((by rw [hg]; exact Nat.ne_of_lt (bLt (g := gb142) (o := .cells #[.int .i64 a0_0, .int .i64 a0_1] 28 (0, 0)) (by (with_reducible repeat (first | refine bDn ?_ _ | refine bDr ?_ | refine bAl ?_ _)); exact BK142.out)) : gb142 ≠ gb144)); have n7_ := AsZ.mk ((by rw [hg]; exact Nat.ne_of_gt (bLt (g := gb142) (o := .cells #[.int .i64 a0_0, .int .i64 a0_1] 28 (0, 0)) (by (with_reducible repeat (first | refine bDn ?_ _ | refine bDr ?_ | refine bAl ?_ _)); exact BK142.out)) : gb144 ≠ gb142)); have n8_ := AsZ.mk ((by rw [hg]; exact Nat.ne_of_lt (bLt (g := gb143) (o := .cells #[.int .i64 a1_0, .int .i64 a1_1] 28 (0, 0)) (by (with_reducible repeat (first | refine bDn ?_ _ | refine bDr ?_ | refine bAl ?_ _)); exact BK143.out)) : gb143 ≠ gb144)); have n9_ := AsZ.mk ((by rw [hg]; exact Nat.ne_of_gt (bLt (g := gb143) (o := .cells #[.int .i64 a1_0, .int .i64 a1_1] 28 (0, 0)) (by (with_reducible repeat (first | refine bDn ?_ _ | refine bDr ?_ | refine bAl ?_ _)); exact BK143.out)) : gb144 ≠ gb143)); clear BK142; clear BK143; clear HB; have BK142 := n0_; have BK143 := n1_; have HB := n2_; have BK144 := n3_; have GW144 := n4_; have GE144 := n5_; have NB142_144 := n6_; have NB144_142 := n7_; have NB143_144 := n8_; have NB144_143 := n9_; clear n0_ n1_ n2_ n3_ n4_ n5_ n6_ n7_ n8_ n9_; clear hb hbox hg; have hnb55 := NB142_143.out; have hnc55 := NB143_142.out; have hnb56 := NB142_144.out; have hnc56 := NB144_142.out; have hcz57_0 : w54.cell? ⟨gb142, 0, none⟩ = some (.int .i64 a0_0) := (bCe BK142.out 0).trans rfl; have hcz57_1 : w54.cell? ⟨gb142, 1, none⟩ = some (.int .i64 a0_1) := (bCe BK142.out 1).trans rfl; have hfz57_0 := bFz BK142.out 0; have hfz57_1 := bFz BK142.out 1; have hnb58 := NB143_144.out; have hnc58 := NB144_143.out; have hcz59_0 : w54.cell? ⟨gb143, 0, none⟩ = some (.int .i64 a1_0) := (bCe BK143.out 0).trans rfl; have hcz59_1 : w54.cell? ⟨gb143, 1, none⟩ = some (.int .i64 a1_1) := (bCe BK143.out 1).trans rfl; have hfz59_0 := bFz BK143.out 0; have hfz59_1 := bFz BK143.out 1) | ((with_reducible refine gDs (N := 6) rfl ?_); refine bEv ?hg (N := 6) ?hd (cs := #[.int .i64 0, .int .i64 0]) (t := 28) ?hr ?_; (case hd => rfl); (case hg => rfl); (case hr => first | (go_simp; done) | (go_simp; rfl)); intro gb145 hg w60 hbox hb; have n0_ := AsZ.mk (bBl (g := gb142) (o := .cells #[.int .i64 a0_0, .int .i64 a0_1] 28 (0, 0)) (by (with_reducible repeat (first | refine bDn ?_ _ | refine bDr ?_ | refine bAl ?_ _)); exact BK142.out) hb); have n1_ := AsZ.mk (bBl (g := gb143) (o := .cells #[.int .i64 a1_0, .int .i64 a1_1] 28 (0, 0)) (by (with_reducible repeat (first | refine bDn ?_ _ | refine bDr ?_ | refine bAl ?_ _)); exact BK143.out) hb); have n2_ := AsZ.mk (bBl (g := gb144) (o := .cells #[.int .i64 0, .int .i64 0] 28 (0, 0)) (by (with_reducible repeat (first | refine bDn ?_ _ | refine bDr ?_ | refine bAl ?_ _)); exact BK144.out) hb); have n3_ := AsZ.mk (tBl (by repeat (first | (with_reducible first | exact HB.out | apply aBl | apply pBd | apply dBl | refine sBl ?_ GE142.out | refine sBl ?_ GE143.out | refine sBl ?_ GE144.out) | exact HB.out)) hb); have n4_ := AsZ.mk (hbox); have n5_ := AsZ.mk ((by rw [hg]; exact (zBl (by repeat (first | (with_reducible first | exact HB.out | apply aBl | apply pBd | apply dBl | refine sBl ?_ GE142.out | refine sBl ?_ GE143.out | refine sBl ?_ GE144.out) | exact HB.out))) : w.heap.size ≤ gb145)); have n6_ := AsZ.mk ((by rw [hg]; exact (zBl (by repeat (first | (with_reducible first | exact HB.out | apply aBl | apply pBd | apply dBl | refine sBl ?_ GE142.out | refine sBl ?_ GE143.out | refine sBl ?_ GE144.out) | exact HB.out))) : w.heap.size ≤ gb145)); have n7_ := AsZ.mk ((by rw [hg]; exact Nat.ne_of_lt (bLt (g := gb142) (o := .cells #[.int .i64 a0_0, .int .i64 a0_1] 28 (0, 0)) (by (with_reducible repeat (first | refine bDn ?_ _ | refine bDr ?_ | refine bAl ?_ _)); exact BK142.out)) : gb142 ≠ gb145)); have n8_ := AsZ.mk ((by rw [hg]; exact Nat.ne_of_gt (bLt (g := gb142) (o := .cells #[.int .i64 a0_0, .int .i64 a0_1] 28 (0, 0)) (by (with_reducible repeat (first | refine bDn ?_ _ | refine bDr ?_ | refine bAl ?_ _)); exact BK142.out)) : gb145 ≠ gb142)); have n9_ := AsZ.mk ((by rw [hg]; exact Nat.ne_of_lt (bLt (g := gb143) (o := .cells #[.int .i64 a1_0, .int .i64 a1_1] 28 (0, 0)) (by (with_reducible repeat (first | refine bDn ?_ _ | refine bDr ?_ | refine bAl ?_ _)); exact BK143.out)) : gb143 ≠ gb145)); have n10_ := AsZ.mk ((by rw [hg]; exact Nat.ne_of_gt (bLt (g := gb143) (o := .cells #[.int .i64 a1_0, .int .i64 a1_1] 28 (0, 0)) (by (with_reducible repeat (first | refine bDn ?_ _ | refine bDr ?_ | refine bAl ?_ _)); exact BK143.out)) : gb145 ≠ gb143)); have n11_ := AsZ.mk ((by rw [hg]; exact Nat.ne_of_lt (bLt (g := gb144) (o := .cells #[.int .i64 0, .int .i64 0] 28 (0, 0)) (by (with_reducible repeat (first | refine bDn ?_ _ | refine bDr ?_ | refine bAl ?_ _)); exact BK144.out)) : gb144 ≠ gb145)); have n12_ := AsZ.mk ((by rw [hg]; exact Nat.ne_of_gt (bLt (g := gb144) (o := .cells #[.int .i64 0, .int .i64 0] 28 (0, 0)) (by (with_reducible repeat (first | refine bDn ?_ _ | refine bDr ?_ | refine bAl ?_ _)); exact BK144.out)) : gb145 ≠ gb144)); clear BK142; clear BK143; clear BK144; clear HB; have BK142 := n0_; have BK143 := n1_; have BK144 := n2_; have HB := n3_; have BK145 := n4_; have GW145 := n5_; have GE145 := n6_; have NB142_145 := n7_; have NB145_142 := n8_; have NB143_145 := n9_; have NB145_143 := n10_; have NB144_145 := n11_; have NB145_144 := n12_; clear n0_ n1_ n2_ n3_ n4_ n5_ n6_ n7_ n8_ n9_ n10_ n11_ n12_; clear hb hbox hg; have hnb61 := NB145_142.out; have hnc61 := NB142_145.out; have hnb62 := NB145_143.out; have hnc62 := NB143_145.out; have hnb63 := NB145_144.out; have hnc63 := NB144_145.out; have hcz64_0 : w60.cell? ⟨gb145, 0, none⟩ = some (.int .i64 0) := (bCe BK145.out 0).trans rfl; have hcz64_1 : w60.cell? ⟨gb145, 1, none⟩ = some (.int .i64 0) := (bCe BK145.out 1).trans rfl; have hfz64_0 := bFz BK145.out 0; have hfz64_1 := bFz BK145.out 1; have hcz65_0 : w60.cell? ⟨gb142, 0, none⟩ = some (.int .i64 a0_0) := (bCe BK142.out 0).trans rfl; have hcz65_1 : w60.cell? ⟨gb142, 1, none⟩ = some (.int .i64 a0_1) := (bCe BK142.out 1).trans rfl; have hfz65_0 := bFz BK142.out 0; have hfz65_1 := bFz BK142.out 1) | ((with_reducible refine gCa (f := 55) rfl ?_); refine gLl (some 19) rfl rfl Try.func55 (by kernel_rfl) rfl #[.agg #[.int .i64 a0_0, .int .i64 a0_1]] rfl (by (try simp only [List.map_toArray, List.map_cons, List.map_nil]); first | done | rfl | (simp only [List.length_drop, List.length_take]; rfl)) ?_; (with_reducible refine (span_Right.calls a0_0 a0_1 true _ A5.out).mono ?_); rintro e w66 ⟨rfl, hb⟩; refine ⟨_, rfl, ?_⟩; have n0_ := AsZ.mk (bBl (g := gb142) (o := .cells #[.int .i64 a0_0, .int .i64 a0_1] 28 (0, 0)) (by (with_reducible repeat (first | refine bDn ?_ _ | refine bDr ?_ | refine bAl ?_ _)); refine bFr ?_ NB142_145.out _; (with_reducible repeat (first | refine bDn ?_ _ | refine bDr ?_ | refine bAl ?_ _)); refine bFr ?_ NB142_145.out _; (with_reducible repeat (first | refine bDn ?_ _ | refine bDr ?_ | refine bAl ?_ _)); exact BK142.out) hb); have n1_ := AsZ.mk (bBl (g := gb143) (o := .cells #[.int .i64 a1_0, .int .i64 a1_1] 28 (0, 0)) (by (with_reducible repeat (first | refine bDn ?_ _ | refine bDr ?_ | refine bAl ?_ _)); refine bFr ?_ NB143_145.out _; (with_reducible repeat (first | refine bDn ?_ _ | refine bDr ?_ | refine bAl ?_ _)); refine bFr ?_ NB143_145.out _; (with_reducible repeat (first | refine bDn ?_ _ | refine bDr ?_ | refine bAl ?_ _)); exact BK143.out) hb); have n2_ := AsZ.mk (bBl (g := gb144) (o := .cells #[.int .i64 0, .int .i64 0] 28 (0, 0)) (by (with_reducible repeat (first | refine bDn ?_ _ | refine bDr ?_ | refine bAl ?_ _)); refine bFr ?_ NB144_145.out _; (with_reducible repeat (first | refine bDn ?_ _ | refine bDr ?_ | refine bAl ?_ _)); refine bFr ?_ NB144_145.out _; (with_reducible repeat (first | refine bDn ?_ _ | refine bDr ?_ | refine bAl ?_ _)); exact BK144.out) hb); have n3_ := AsZ.mk (bBl (g := gb145) (o := .cells #[.int .i64 ji3, .int .i64 ji4] 28 (0, 0)) (by (with_reducible repeat (first | refine bDn ?_ _ | refine bDr ?_ | refine bAl ?_ _)); refine bPu (cs := #[.int .i64 ji3, .int .i64 0]) ?_ 1 _ rfl; (with_reducible repeat (first | refine bDn ?_ _ | refine bDr ?_ | refine bAl ?_ _)); refine bPu (cs := #[.int .i64 0, .int .i64 0]) ?_ 0 _ rfl; (with_reducible repeat (first | refine bDn ?_ _ | refine bDr ?_ | refine bAl ?_ _)); exact BK145.out) hb); have n4_ := AsZ.mk (tBl (by repeat (first | (with_reducible first | exact HB.out | apply aBl | apply pBd | apply dBl | refine sBl ?_ GE142.out | refine sBl ?_ GE143.out | refine sBl ?_ GE144.out | refine sBl ?_ GE145.out) | exact HB.out)) hb); clear BK142; clear BK143; clear BK144; clear BK145; clear HB; have BK142 := n0_; have BK143 := n1_; have BK144 := n2_; have BK145 := n3_; have HB := n4_; clear n0_ n1_ n2_ n3_ n4_; (try clear hb); (try clear hb2); (try clear hk); (try clear hi); have hcz67_0 : w66.cell? ⟨gb143, 0, none⟩ = some (.int .i64 a1_0) := (bCe BK143.out 0).trans rfl; have hcz67_1 : w66.cell? ⟨gb143, 1, none⟩ = some (.int .i64 a1_1) := (bCe BK143.out 1).trans rfl; have hfz67_0 := bFz BK143.out 0; have hfz67_1 := bFz BK143.out 1) | (go_at_call 55; (with_reducible refine (span_Right.calls a1_0 a1_1 false _ A7.out).mono ?_); rintro e w68 ⟨rfl, hb⟩; have n0_ := AsZ.mk (bBl (g := gb142) (o := .cells #[.int .i64 a0_0, .int .i64 a0_1] 28 (0, 0)) (by (with_reducible repeat (first | refine bDn ?_ _ | refine bDr ?_ | refine bAl ?_ _)); exact BK142.out) hb); have n1_ := AsZ.mk (bBl (g := gb143) (o := .cells #[.int .i64 a1_0, .int .i64 a1_1] 28 (0, 0)) (by (with_reducible repeat (first | refine bDn ?_ _ | refine bDr ?_ | refine bAl ?_ _)); exact BK143.out) hb); have n2_ := AsZ.mk (bBl (g := gb144) (o := .cells #[.int .i64 0, .int .i64 0] 28 (0, 0)) (by (with_reducible repeat (first | refine bDn ?_ _ | refine bDr ?_ | refine bAl ?_ _)); exact BK144.out) hb); have n3_ := AsZ.mk (bBl (g := gb145) (o := .cells #[.int .i64 ji3, .int .i64 ji4] 28 (0, 0)) (by (with_reducible repeat (first | refine bDn ?_ _ | refine bDr ?_ | refine bAl ?_ _)); exact BK145.out) hb); have n4_ := AsZ.mk (tBl (by repeat (first | (with_reducible first | exact HB.out | apply aBl | apply pBd | apply dBl | refine sBl ?_ GE142.out | refine sBl ?_ GE143.out | refine sBl ?_ GE144.out | refine sBl ?_ GE145.out) | exact HB.out)) hb); clear BK142; clear BK143; clear BK144; clear BK145; clear HB; have BK142 := n0_; have BK143 := n1_; have BK144 := n2_; have BK145 := n3_; have HB := n4_; clear n0_ n1_ n2_ n3_ n4_; (try clear hb); (try clear hb2); (try clear hk); (try clear hi); have hcz69_0 : w68.cell? ⟨gb144, 0, none⟩ = some (.int .i64 0) := (bCe BK144.out 0).trans rfl; have hcz69_1 : w68.cell? ⟨gb144, 1, none⟩ = some (.int .i64 0) := (bCe BK144.out 1).trans rfl; have hfz69_0 := bFz BK144.out 0; have hfz69_1 := bFz BK144.out 1))
      refine bodyPost_ret (results_ct rfl _ _ gb144 28 #[.int .i64 0, .int .i64 0] (0, 0) _ rfl (by (with_reducible repeat (first | refine bDn ?_ _ | refine bDr ?_ | refine bAl ?_ _)); refine bPu (cs := #[.int .i64 0, .int .i64 0]) ?_ 1 _ rfl; (with_reducible repeat (first | refine bDn ?_ _ | refine bDr ?_ | refine bAl ?_ _)); refine bPu (cs := #[.int .i64 0, .int .i64 0]) ?_ 0 _ rfl; (with_reducible repeat (first | refine bDn ?_ _ | refine bDr ?_ | refine bAl ?_ _)); exact BK144.out) Try.underlying28 rfl (by kernel_rfl)) rfl ?_
      exact ⟨by first | rfl | exact nEm _ | exact eEm _ | (simp [eWn, eWs] <;> rfl) | (simp only [← hji3, ← hji4]; first | rfl | (simp [eWn, eWs] <;> rfl)) | (simp [*, eWn, eWs] <;> rfl), by repeat (first | (with_reducible first | exact HB.out | apply aBl | apply pBd | apply dBl | refine sBl ?_ GE142.out | refine sBl ?_ GE143.out | refine sBl ?_ GE144.out | refine sBl ?_ GE145.out) | exact HB.out)⟩
  · replace c6 := Bool.eq_false_iff.mpr c6
    subst c6
    have H1 : (some (0, 0, false)) = some (r1, r2, r3) := by rw [if_neg (show ¬ (false = true) by decide)] at H; exact H
    clear H
    have H := H1
    clear H1
    simp only [Option.some.injEq, Prod.mk.injEq] at H
    obtain ⟨rfl, rfl, rfl⟩ := H
    go_enter Try.func50, Try.ntmps50
    go_wp2_with (first | ((with_reducible refine gDs (N := 2) rfl ?_); refine bEv ?hg (N := 2) ?hd (cs := #[.int .i64 a0_0, .int .i64 a0_1]) (t := 28) ?hr ?_; (case hd => rfl); (case hg => rfl); (case hr => first | (go_simp; done) | (go_simp; rfl)); intro gb142 hg w70 hbox hb; have n0_ := AsZ.mk (tBl (by repeat (first | (with_reducible first | exact HB.out | apply aBl | apply pBd | apply dBl) | exact HB.out)) hb); have n1_ := AsZ.mk (hbox); have n2_ := AsZ.mk ((by rw [hg]; exact (zBl (by repeat (first | (with_reducible first | exact HB.out | apply aBl | apply pBd | apply dBl) | exact HB.out))) : w.heap.size ≤ gb142)); have n3_ := AsZ.mk ((by rw [hg]; exact (zBl (by repeat (first | (with_reducible first | exact HB.out | apply aBl | apply pBd | apply dBl) | exact HB.out))) : w.heap.size ≤ gb142)); clear HB; have HB := n0_; have BK142 := n1_; have GW142 := n2_; have GE142 := n3_; clear n0_ n1_ n2_ n3_; clear hb hbox hg) | ((with_reducible refine gDs (N := 3) rfl ?_); refine bEv ?hg (N := 3) ?hd (cs := #[.int .i64 a1_0, .int .i64 a1_1]) (t := 28) ?hr ?_; (case hd => rfl); (case hg => rfl); (case hr => first | (go_simp; done) | (go_simp; rfl)); intro gb143 hg w71 hbox hb; have n0_ := AsZ.mk (bBl (g := gb142) (o := .cells #[.int .i64 a0_0, .int .i64 a0_1] 28 (0, 0)) (by (with_reducible repeat (first | refine bDn ?_ _ | refine bDr ?_ | refine bAl ?_ _)); exact BK142.out) hb); have n1_ := AsZ.mk (tBl (by repeat (first | (with_reducible first | exact HB.out | apply aBl | apply pBd | apply dBl | refine sBl ?_ GE142.out) | exact HB.out)) hb); have n2_ := AsZ.mk (hbox); have n3_ := AsZ.mk ((by rw [hg]; exact (zBl (by repeat (first | (with_reducible first | exact HB.out | apply aBl | apply pBd | apply dBl | refine sBl ?_ GE142.out) | exact HB.out))) : w.heap.size ≤ gb143)); have n4_ := AsZ.mk ((by rw [hg]; exact (zBl (by repeat (first | (with_reducible first | exact HB.out | apply aBl | apply pBd | apply dBl | refine sBl ?_ GE142.out) | exact HB.out))) : w.heap.size ≤ gb143)); have n5_ := AsZ.mk ((by rw [hg]; exact Nat.ne_of_lt (bLt (g := gb142) (o := .cells #[.int .i64 a0_0, .int .i64 a0_1] 28 (0, 0)) (by (with_reducible repeat (first | refine bDn ?_ _ | refine bDr ?_ | refine bAl ?_ _)); exact BK142.out)) : gb142 ≠ gb143)); have n6_ := AsZ.mk ((by rw [hg]; exact Nat.ne_of_gt (bLt (g := gb142) (o := .cells #[.int .i64 a0_0, .int .i64 a0_1] 28 (0, 0)) (by (with_reducible repeat (first | refine bDn ?_ _ | refine bDr ?_ | refine bAl ?_ _)); exact BK142.out)) : gb143 ≠ gb142)); clear BK142; clear HB; have BK142 := n0_; have HB := n1_; have BK143 := n2_; have GW143 := n3_; have GE143 := n4_; have NB142_143 := n5_; have NB143_142 := n6_; clear n0_ n1_ n2_ n3_ n4_ n5_ n6_; clear hb hbox hg) | ((with_reducible refine gDs (N := 4) rfl ?_); refine bEv ?hg (N := 4) ?hd (cs := #[.int .i64 0, .int .i64 0]) (t := 28) ?hr ?_; (case hd => rfl); (case hg => rfl); (case hr => first | (go_simp; done) | (go_simp; rfl)); intro gb144 hg w72 hbox hb; have n0_ := AsZ.mk (bBl (g := gb142) (o := .cells #[.int .i64 a0_0, .int .i64 a0_1] 28 (0, 0)) (by (with_reducible repeat (first | refine bDn ?_ _ | refine bDr ?_ | refine bAl ?_ _)); exact BK142.out) hb); have n1_ := AsZ.mk (bBl (g := gb143) (o := .cells #[.int .i64 a1_0, .int .i64 a1_1] 28 (0, 0)) (by (with_reducible repeat (first | refine bDn ?_ _ | refine bDr ?_ | refine bAl ?_ _)); exact BK143.out) hb); have n2_ := AsZ.mk (tBl (by repeat (first | (with_reducible first | exact HB.out | apply aBl | apply pBd | apply dBl | refine sBl ?_ GE142.out | refine sBl ?_ GE143.out) | exact HB.out)) hb); have n3_ := AsZ.mk (hbox); have n4_ := AsZ.mk ((by rw [hg]; exact (zBl (by repeat (first | (with_reducible first | exact HB.out | apply aBl | apply pBd | apply dBl | refine sBl ?_ GE142.out | refine sBl ?_ GE143.out) | exact HB.out))) : w.heap.size ≤ gb144)); have n5_ := AsZ.mk ((by rw [hg]; exact (zBl (by repeat (first | (with_reducible first | exact HB.out | apply aBl | apply pBd | apply dBl | refine sBl ?_ GE142.out | refine sBl ?_ GE143.out) | exact HB.out))) : w.heap.size ≤ gb144)); have n6_ := AsZ.mk ((by rw [hg]; exact Nat.ne_of_lt (bLt (g := gb142) (o := .cells #[.int .i64 a0_0, .int .i64 a0_1] 28 (0, 0)) (by (with_reducible repeat (first | refine bDn ?_ _ | refine bDr ?_ | refine bAl ?_ _)); exact BK142.out)) : gb142 ≠ gb144)); have n7_ := AsZ.mk ((by rw [hg]; exact Nat.ne_of_gt (bLt (g := gb142) (o := .cells #[.int .i64 a0_0, .int .i64 a0_1] 28 (0, 0)) (by (with_reducible repeat (first | refine bDn ?_ _ | refine bDr ?_ | refine bAl ?_ _)); exact BK142.out)) : gb144 ≠ gb142)); have n8_ := AsZ.mk ((by rw [hg]; exact Nat.ne_of_lt (bLt (g := gb143) (o := .cells #[.int .i64 a1_0, .int .i64 a1_1] 28 (0, 0)) (by (with_reducible repeat (first | refine bDn ?_ _ | refine bDr ?_ | refine bAl ?_ _)); exact BK143.out)) : gb143 ≠ gb144)); have n9_ := AsZ.mk ((by rw [hg]; exact Nat.ne_of_gt (bLt (g := gb143) (o := .cells #[.int .i64 a1_0, .int .i64 a1_1] 28 (0, 0)) (by (with_reducible repeat (first | refine bDn ?_ _ | refine bDr ?_ | refine bAl ?_ _)); exact BK143.out)) : gb144 ≠ gb143)); clear BK142; clear BK143; clear HB; have BK142 := n0_; have BK143 := n1_; have HB := n2_; have BK144 := n3_; have GW144 := n4_; have GE144 := n5_; have NB142_144 := n6_; have NB144_142 := n7_; have NB143_144 := n8_; have NB144_143 := n9_; clear n0_ n1_ n2_ n3_ n4_ n5_ n6_ n7_ n8_ n9_; clear hb hbox hg; have hnb73 := NB142_143.out; have hnc73 := NB143_142.out; have hnb74 := NB142_144.out; have hnc74 := NB144_142.out; have hcz75_0 : w72.cell? ⟨gb142, 0, none⟩ = some (.int .i64 a0_0) := (bCe BK142.out 0).trans rfl; have hcz75_1 : w72.cell? ⟨gb142, 1, none⟩ = some (.int .i64 a0_1) := (bCe BK142.out 1).trans rfl; have hfz75_0 := bFz BK142.out 0; have hfz75_1 := bFz BK142.out 1; have hnb76 := NB143_144.out; have hnc76 := NB144_143.out; have hcz77_0 : w72.cell? ⟨gb143, 0, none⟩ = some (.int .i64 a1_0) := (bCe BK143.out 0).trans rfl; have hcz77_1 : w72.cell? ⟨gb143, 1, none⟩ = some (.int .i64 a1_1) := (bCe BK143.out 1).trans rfl; have hfz77_0 := bFz BK143.out 0; have hfz77_1 := bFz BK143.out 1) | ((with_reducible refine gDs (N := 6) rfl ?_); refine bEv ?hg (N := 6) ?hd (cs := #[.int .i64 0, .int .i64 0]) (t := 28) ?hr ?_; (case hd => rfl); (case hg => rfl); (case hr => first | (go_simp; done) | (go_simp; rfl)); intro gb145 hg w78 hbox hb; have n0_ := AsZ.mk (bBl (g := gb142) (o := .cells #[.int .i64 a0_0, .int .i64 a0_1] 28 (0, 0)) (by (with_reducible repeat (first | refine bDn ?_ _ | refine bDr ?_ | refine bAl ?_ _)); exact BK142.out) hb); have n1_ := AsZ.mk (bBl (g := gb143) (o := .cells #[.int .i64 a1_0, .int .i64 a1_1] 28 (0, 0)) (by (with_reducible repeat (first | refine bDn ?_ _ | refine bDr ?_ | refine bAl ?_ _)); exact BK143.out) hb); have n2_ := AsZ.mk (bBl (g := gb144) (o := .cells #[.int .i64 0, .int .i64 0] 28 (0, 0)) (by (with_reducible repeat (first | refine bDn ?_ _ | refine bDr ?_ | refine bAl ?_ _)); exact BK144.out) hb); have n3_ := AsZ.mk (tBl (by repeat (first | (with_reducible first | exact HB.out | apply aBl | apply pBd | apply dBl | refine sBl ?_ GE142.out | refine sBl ?_ GE143.out | refine sBl ?_ GE144.out) | exact HB.out)) hb); have n4_ := AsZ.mk (hbox); have n5_ := AsZ.mk ((by rw [hg]; exact (zBl (by repeat (first | (with_reducible first | exact HB.out | apply aBl | apply pBd | apply dBl | refine sBl ?_ GE142.out | refine sBl ?_ GE143.out | refine sBl ?_ GE144.out) | exact HB.out))) : w.heap.size ≤ gb145)); have n6_ := AsZ.mk ((by rw [hg]; exact (zBl (by repeat (first | (with_reducible first | exact HB.out | apply aBl | apply pBd | apply dBl | refine sBl ?_ GE142.out | refine sBl ?_ GE143.out | refine sBl ?_ GE144.out) | exact HB.out))) : w.heap.size ≤ gb145)); have n7_ := AsZ.mk ((by rw [hg]; exact Nat.ne_of_lt (bLt (g := gb142) (o := .cells #[.int .i64 a0_0, .int .i64 a0_1] 28 (0, 0)) (by (with_reducible repeat (first | refine bDn ?_ _ | refine bDr ?_ | refine bAl ?_ _)); exact BK142.out)) : gb142 ≠ gb145)); have n8_ := AsZ.mk ((by rw [hg]; exact Nat.ne_of_gt (bLt (g := gb142) (o := .cells #[.int .i64 a0_0, .int .i64 a0_1] 28 (0, 0)) (by (with_reducible repeat (first | refine bDn ?_ _ | refine bDr ?_ | refine bAl ?_ _)); exact BK142.out)) : gb145 ≠ gb142)); have n9_ := AsZ.mk ((by rw [hg]; exact Nat.ne_of_lt (bLt (g := gb143) (o := .cells #[.int .i64 a1_0, .int .i64 a1_1] 28 (0, 0)) (by (with_reducible repeat (first | refine bDn ?_ _ | refine bDr ?_ | refine bAl ?_ _)); exact BK143.out)) : gb143 ≠ gb145)); have n10_ := AsZ.mk ((by rw [hg]; exact Nat.ne_of_gt (bLt (g := gb143) (o := .cells #[.int .i64 a1_0, .int .i64 a1_1] 28 (0, 0)) (by (with_reducible repeat (first | refine bDn ?_ _ | refine bDr ?_ | refine bAl ?_ _)); exact BK143.out)) : gb145 ≠ gb143)); have n11_ := AsZ.mk ((by rw [hg]; exact Nat.ne_of_lt (bLt (g := gb144) (o := .cells #[.int .i64 0, .int .i64 0] 28 (0, 0)) (by (with_reducible repeat (first | refine bDn ?_ _ | refine bDr ?_ | refine bAl ?_ _)); exact BK144.out)) : gb144 ≠ gb145)); have n12_ := AsZ.mk ((by rw [hg]; exact Nat.ne_of_gt (bLt (g := gb144) (o := .cells #[.int .i64 0, .int .i64 0] 28 (0, 0)) (by (with_reducible repeat (first | refine bDn ?_ _ | refine bDr ?_ | refine bAl ?_ _)); exact BK144.out)) : gb145 ≠ gb144)); clear BK142; clear BK143; clear BK144; clear HB; have BK142 := n0_; have BK143 := n1_; have BK144 := n2_; have HB := n3_; have BK145 := n4_; have GW145 := n5_; have GE145 := n6_; have NB142_145 := n7_; have NB145_142 := n8_; have NB143_145 := n9_; have NB145_143 := n10_; have NB144_145 := n11_; have NB145_144 := n12_; clear n0_ n1_ n2_ n3_ n4_ n5_ n6_ n7_ n8_ n9_ n10_ n11_ n12_; clear hb hbox hg; have hnb79 := NB145_142.out; have hnc79 := NB142_145.out; have hnb80 := NB145_143.out; have hnc80 := NB143_145.out; have hnb81 := NB145_144.out; have hnc81 := NB144_145.out; have hcz82_0 : w78.cell? ⟨gb145, 0, none⟩ = some (.int .i64 0) := (bCe BK145.out 0).trans rfl; have hcz82_1 : w78.cell? ⟨gb145, 1, none⟩ = some (.int .i64 0) := (bCe BK145.out 1).trans rfl; have hfz82_0 := bFz BK145.out 0; have hfz82_1 := bFz BK145.out 1; have hcz83_0 : w78.cell? ⟨gb142, 0, none⟩ = some (.int .i64 a0_0) := (bCe BK142.out 0).trans rfl; have hcz83_1 : w78.cell? ⟨gb142, 1, none⟩ = some (.int .i64 a0_1) := (bCe BK142.out 1).trans rfl; have hfz83_0 := bFz BK142.out 0; have hfz83_1 := bFz BK142.out 1) | ((with_reducible refine gCa (f := 55) rfl ?_); refine gLl (some 19) rfl rfl Try.func55 (by kernel_rfl) rfl #[.agg #[.int .i64 a0_0, .int .i64 a0_1]] rfl (by (try simp only [List.map_toArray, List.map_cons, List.map_nil]); first | done | rfl | (simp only [List.length_drop, List.length_take]; rfl)) ?_; (with_reducible refine (span_Right.calls a0_0 a0_1 false _ A5.out).mono ?_); rintro e w84 ⟨rfl, hb⟩; refine ⟨_, rfl, ?_⟩; have n0_ := AsZ.mk (bBl (g := gb142) (o := .cells #[.int .i64 a0_0, .int .i64 a0_1] 28 (0, 0)) (by (with_reducible repeat (first | refine bDn ?_ _ | refine bDr ?_ | refine bAl ?_ _)); refine bFr ?_ NB142_145.out _; (with_reducible repeat (first | refine bDn ?_ _ | refine bDr ?_ | refine bAl ?_ _)); refine bFr ?_ NB142_145.out _; (with_reducible repeat (first | refine bDn ?_ _ | refine bDr ?_ | refine bAl ?_ _)); exact BK142.out) hb); have n1_ := AsZ.mk (bBl (g := gb143) (o := .cells #[.int .i64 a1_0, .int .i64 a1_1] 28 (0, 0)) (by (with_reducible repeat (first | refine bDn ?_ _ | refine bDr ?_ | refine bAl ?_ _)); refine bFr ?_ NB143_145.out _; (with_reducible repeat (first | refine bDn ?_ _ | refine bDr ?_ | refine bAl ?_ _)); refine bFr ?_ NB143_145.out _; (with_reducible repeat (first | refine bDn ?_ _ | refine bDr ?_ | refine bAl ?_ _)); exact BK143.out) hb); have n2_ := AsZ.mk (bBl (g := gb144) (o := .cells #[.int .i64 0, .int .i64 0] 28 (0, 0)) (by (with_reducible repeat (first | refine bDn ?_ _ | refine bDr ?_ | refine bAl ?_ _)); refine bFr ?_ NB144_145.out _; (with_reducible repeat (first | refine bDn ?_ _ | refine bDr ?_ | refine bAl ?_ _)); refine bFr ?_ NB144_145.out _; (with_reducible repeat (first | refine bDn ?_ _ | refine bDr ?_ | refine bAl ?_ _)); exact BK144.out) hb); have n3_ := AsZ.mk (bBl (g := gb145) (o := .cells #[.int .i64 ji3, .int .i64 ji4] 28 (0, 0)) (by (with_reducible repeat (first | refine bDn ?_ _ | refine bDr ?_ | refine bAl ?_ _)); refine bPu (cs := #[.int .i64 ji3, .int .i64 0]) ?_ 1 _ rfl; (with_reducible repeat (first | refine bDn ?_ _ | refine bDr ?_ | refine bAl ?_ _)); refine bPu (cs := #[.int .i64 0, .int .i64 0]) ?_ 0 _ rfl; (with_reducible repeat (first | refine bDn ?_ _ | refine bDr ?_ | refine bAl ?_ _)); exact BK145.out) hb); have n4_ := AsZ.mk (tBl (by repeat (first | (with_reducible first | exact HB.out | apply aBl | apply pBd | apply dBl | refine sBl ?_ GE142.out | refine sBl ?_ GE143.out | refine sBl ?_ GE144.out | refine sBl ?_ GE145.out) | exact HB.out)) hb); clear BK142; clear BK143; clear BK144; clear BK145; clear HB; have BK142 := n0_; have BK143 := n1_; have BK144 := n2_; have BK145 := n3_; have HB := n4_; clear n0_ n1_ n2_ n3_ n4_; (try clear hb); (try clear hb2); (try clear hk); (try clear hi); have hcz85_0 : w84.cell? ⟨gb144, 0, none⟩ = some (.int .i64 0) := (bCe BK144.out 0).trans rfl; have hcz85_1 : w84.cell? ⟨gb144, 1, none⟩ = some (.int .i64 0) := (bCe BK144.out 1).trans rfl; have hfz85_0 := bFz BK144.out 0; have hfz85_1 := bFz BK144.out 1))
    refine bodyPost_ret (results_ct rfl _ _ gb144 28 #[.int .i64 0, .int .i64 0] (0, 0) _ rfl (by (with_reducible repeat (first | refine bDn ?_ _ | refine bDr ?_ | refine bAl ?_ _)); refine bPu (cs := #[.int .i64 0, .int .i64 0]) ?_ 1 _ rfl; (with_reducible repeat (first | refine bDn ?_ _ | refine bDr ?_ | refine bAl ?_ _)); refine bPu (cs := #[.int .i64 0, .int .i64 0]) ?_ 0 _ rfl; (with_reducible repeat (first | refine bDn ?_ _ | refine bDr ?_ | refine bAl ?_ _)); exact BK144.out) Try.underlying28 rfl (by kernel_rfl)) rfl ?_
    exact ⟨by first | rfl | exact nEm _ | exact eEm _ | (simp [eWn, eWs] <;> rfl) | (simp only [← hji3, ← hji4]; first | rfl | (simp [eWn, eWs] <;> rfl)) | (simp [*, eWn, eWs] <;> rfl), by repeat (first | (with_reducible first | exact HB.out | apply aBl | apply pBd | apply dBl | refine sBl ?_ GE142.out | refine sBl ?_ GE143.out | refine sBl ?_ GE144.out | refine sBl ?_ GE145.out) | exact HB.out)⟩
def span_Len.f (a0_0 : Int) (a0_1 : Int) : Option (Int) := (span_Right.f a0_0 a0_1).bind fun t150 => (if t150 = true then (some (wrap64 (a0_1 - a0_0))) else (some 0))
set_option maxHeartbeats 8000000 in
set_option maxRecDepth 100000 in
theorem span_Len.calls (a0_0 : Int) (a0_1 : Int) (r : Int) (w : World) (h : span_Len.f a0_0 a0_1 = some r) :
    Calls Try.prog 51 #[.agg #[.int .i64 a0_0, .int .i64 a0_1]] w fun e w' => e = .returned (.int .i64 r) ∧ Below w.heap.size w w' := by
  have hu28 := Try.underlying28
  have HB := AsZ.mk (Below.refl w.heap.size w)
  have H : ((span_Right.f a0_0 a0_1).bind fun t150 => (if t150 = true then (some (wrap64 (a0_1 - a0_0))) else (some 0))) = some r := h
  clear h
  replace H := Option.bind_eq_some_iff.mp H
  obtain ⟨t150, A20, H⟩ := H
  replace H : (if t150 = true then (some (wrap64 (a0_1 - a0_0))) else (some 0)) = some r := H
  have A2 := AsZ.mk A20
  clear A20
  by_cases c3 : t150 = true
  · subst c3
    have H1 : (some (wrap64 (a0_1 - a0_0))) = some r := by rw [if_pos rfl] at H; exact H
    clear H
    have H := H1
    clear H1
    obtain rfl := Option.some.inj H
    go_enter Try.func51, Try.ntmps51
    go_wp2_with (first | ((with_reducible refine gDs (N := 1) rfl ?_); refine bEv ?hg (N := 1) ?hd (cs := #[.int .i64 a0_0, .int .i64 a0_1]) (t := 28) ?hr ?_; (case hd => rfl); (case hg => rfl); (case hr => first | (go_simp; done) | (go_simp; rfl)); intro gb149 hg w4 hbox hb; have n0_ := AsZ.mk (tBl (by repeat (first | (with_reducible first | exact HB.out | apply aBl | apply pBd | apply dBl) | exact HB.out)) hb); have n1_ := AsZ.mk (hbox); have n2_ := AsZ.mk ((by rw [hg]; exact (zBl (by repeat (first | (with_reducible first | exact HB.out | apply aBl | apply pBd | apply dBl) | exact HB.out))) : w.heap.size ≤ gb149)); have n3_ := AsZ.mk ((by rw [hg]; exact (zBl (by repeat (first | (with_reducible first | exact HB.out | apply aBl | apply pBd | apply dBl) | exact HB.out))) : w.heap.size ≤ gb149)); clear HB; have HB := n0_; have BK149 := n1_; have GW149 := n2_; have GE149 := n3_; clear n0_ n1_ n2_ n3_; clear hb hbox hg; have hcz5_0 : w4.cell? ⟨gb149, 0, none⟩ = some (.int .i64 a0_0) := (bCe BK149.out 0).trans rfl; have hcz5_1 : w4.cell? ⟨gb149, 1, none⟩ = some (.int .i64 a0_1) := (bCe BK149.out 1).trans rfl; have hfz5_0 := bFz BK149.out 0; have hfz5_1 := bFz BK149.out 1) | ((with_reducible refine gCa (f := 55) rfl ?_); refine gLl (some 4) rfl rfl Try.func55 (by kernel_rfl) rfl #[.agg #[.int .i64 a0_0, .int .i64 a0_1]] rfl (by (try simp only [List.map_toArray, List.map_cons, List.map_nil]); first | done | rfl | (simp only [List.length_drop, List.length_take]; rfl)) ?_; (with_reducible refine (span_Right.calls a0_0 a0_1 true _ A2.out).mono ?_); rintro e w6 ⟨rfl, hb⟩; refine ⟨_, rfl, ?_⟩; have n0_ := AsZ.mk (bBl (g := gb149) (o := .cells #[.int .i64 a0_0, .int .i64 a0_1] 28 (0, 0)) (by (with_reducible repeat (first | refine bDn ?_ _ | refine bDr ?_ | refine bAl ?_ _)); exact BK149.out) hb); have n1_ := AsZ.mk (tBl (by repeat (first | (with_reducible first | exact HB.out | apply aBl | apply pBd | apply dBl | refine sBl ?_ GE149.out) | exact HB.out)) hb); clear BK149; clear HB; have BK149 := n0_; have HB := n1_; clear n0_ n1_; (try clear hb); (try clear hb2); (try clear hk); (try clear hi); have hcz7_0 : w6.cell? ⟨gb149, 0, none⟩ = some (.int .i64 a0_0) := (bCe BK149.out 0).trans rfl; have hcz7_1 : w6.cell? ⟨gb149, 1, none⟩ = some (.int .i64 a0_1) := (bCe BK149.out 1).trans rfl; have hfz7_0 := bFz BK149.out 0; have hfz7_1 := bFz BK149.out 1))
    go_ret
    exact ⟨by first | rfl | exact nEm _ | exact eEm _ | (simp [eWn, eWs] <;> rfl) | (simp [*, eWn, eWs] <;> rfl), by repeat (first | (with_reducible first | exact HB.out | apply aBl | apply pBd | apply dBl | refine sBl ?_ GE149.out) | exact HB.out)⟩
  · replace c3 := Bool.eq_false_iff.mpr c3
    subst c3
    have H1 : (some 0) = some r := by rw [if_neg (show ¬ (false = true) by decide)] at H; exact H
    clear H
    have H := H1
    clear H1
    obtain rfl := Option.some.inj H
    go_enter Try.func51, Try.ntmps51
    go_wp2_with (first | ((with_reducible refine gDs (N := 1) rfl ?_); refine bEv ?hg (N := 1) ?hd (cs := #[.int .i64 a0_0, .int .i64 a0_1]) (t := 28) ?hr ?_; (case hd => rfl); (case hg => rfl); (case hr => first | (go_simp; done) | (go_simp; rfl)); intro gb149 hg w8 hbox hb; have n0_ := AsZ.mk (tBl (by repeat (first | (with_reducible first | exact HB.out | apply aBl | apply pBd | apply dBl) | exact HB.out)) hb); have n1_ := AsZ.mk (hbox); have n2_ := AsZ.mk ((by rw [hg]; exact (zBl (by repeat (first | (with_reducible first | exact HB.out | apply aBl | apply pBd | apply dBl) | exact HB.out))) : w.heap.size ≤ gb149)); have n3_ := AsZ.mk ((by rw [hg]; exact (zBl (by repeat (first | (with_reducible first | exact HB.out | apply aBl | apply pBd | apply dBl) | exact HB.out))) : w.heap.size ≤ gb149)); clear HB; have HB := n0_; have BK149 := n1_; have GW149 := n2_; have GE149 := n3_; clear n0_ n1_ n2_ n3_; clear hb hbox hg; have hcz9_0 : w8.cell? ⟨gb149, 0, none⟩ = some (.int .i64 a0_0) := (bCe BK149.out 0).trans rfl; have hcz9_1 : w8.cell? ⟨gb149, 1, none⟩ = some (.int .i64 a0_1) := (bCe BK149.out 1).trans rfl; have hfz9_0 := bFz BK149.out 0; have hfz9_1 := bFz BK149.out 1) | ((with_reducible refine gCa (f := 55) rfl ?_); refine gLl (some 4) rfl rfl Try.func55 (by kernel_rfl) rfl #[.agg #[.int .i64 a0_0, .int .i64 a0_1]] rfl (by (try simp only [List.map_toArray, List.map_cons, List.map_nil]); first | done | rfl | (simp only [List.length_drop, List.length_take]; rfl)) ?_; (with_reducible refine (span_Right.calls a0_0 a0_1 false _ A2.out).mono ?_); rintro e w10 ⟨rfl, hb⟩; refine ⟨_, rfl, ?_⟩; have n0_ := AsZ.mk (bBl (g := gb149) (o := .cells #[.int .i64 a0_0, .int .i64 a0_1] 28 (0, 0)) (by (with_reducible repeat (first | refine bDn ?_ _ | refine bDr ?_ | refine bAl ?_ _)); exact BK149.out) hb); have n1_ := AsZ.mk (tBl (by repeat (first | (with_reducible first | exact HB.out | apply aBl | apply pBd | apply dBl | refine sBl ?_ GE149.out) | exact HB.out)) hb); clear BK149; clear HB; have BK149 := n0_; have HB := n1_; clear n0_ n1_; (try clear hb); (try clear hb2); (try clear hk); (try clear hi)))
    go_ret
    exact ⟨by first | rfl | exact nEm _ | exact eEm _ | (simp [eWn, eWs] <;> rfl) | (simp [*, eWn, eWs] <;> rfl), by repeat (first | (with_reducible first | exact HB.out | apply aBl | apply pBd | apply dBl | refine sBl ?_ GE149.out) | exact HB.out)⟩
def version_Body.l0 : Nat → Int → Int → List Int → Int → Int → Int → Int → Option (List Int)
  | 0, _, _, _, _, _, _, _ => none
  | k + 1, x0, x1, x7, x19, x20, x152000, x152001 => if x20 < x19 then ((version_Byte.f x0 x1 (wrap64 (x152000 + x20))).bind fun t157 => (if x7.length < 140737488355328 then (version_Body.l0 k x0 x1 (x7 ++ [t157]) x19 (wrap64 (x20 + 1)) x152000 x152001) else (none))) else (some x7)
def version_Body.f (k : Nat) (a0 : Int) (a1 : Int) (a2_0 : Int) (a2_1 : Int) : Option (List Int) := (version_Length.f a0 a1).bind fun t152 => ((span_Meet.f a2_0 a2_1 0 t152).bind fun bt153 => ((span_Len.f bt153.1 bt153.2.1).bind fun t156 => (version_Body.l0 k a0 a1 ([] : List Int) t156 0 bt153.1 bt153.2.1)))
theorem version_Body.mono_l : ∀ k, (∀ y0 y1 y2 y3 y4 y5 y6, LeO (version_Body.l0 k y0 y1 y2 y3 y4 y5 y6) (version_Body.l0 (k + 1) y0 y1 y2 y3 y4 y5 y6))
  | 0 => fun _ _ _ _ _ _ _ r h => by simp [version_Body.l0] at h
  | k + 1 => by
    have ih0 := version_Body.mono_l k
    · intro y0 y1 y2 y3 y4 y5 y6
      unfold version_Body.l0
      repeat' first
      | (with_reducible exact ih0 _ _ _ _ _ _ _)
      | (with_reducible exact LeO.refl _)
      | (with_reducible exact LeO.none _)
      | (with_reducible refine LeO.ite ?_ ?_)
      | (with_reducible refine LeO.bind ?_ (fun _ => ?_))
      | exact ih0 _ _ _ _ _ _ _
      | exact LeO.none _
      | refine LeO.ite ?_ ?_
      | refine LeO.bind ?_ (fun _ => ?_)
theorem version_Body.mono : ∀ a0 a1 a2 a3 k, LeO (version_Body.f k a0 a1 a2 a3) (version_Body.f (k + 1) a0 a1 a2 a3) := by
  intro a0 a1 a2 a3 k
  have ih0 := version_Body.mono_l k
  unfold version_Body.f
  repeat' first
      | (with_reducible exact ih0 _ _ _ _ _ _ _)
      | (with_reducible exact LeO.refl _)
      | (with_reducible exact LeO.none _)
      | (with_reducible refine LeO.ite ?_ ?_)
      | (with_reducible refine LeO.bind ?_ (fun _ => ?_))
      | exact ih0 _ _ _ _ _ _ _
      | exact LeO.none _
      | refine LeO.ite ?_ ?_
      | refine LeO.bind ?_ (fun _ => ?_)
def version_Body.T1 : Bool × List (List Nat × List Nat) := (true, [([], []), ([], []), ([], []), ([1, 2], [1, 2]), ([3], [3]), ([0, 4, 3], [0, 4]), ([5], [5]), ([6], [6]), ([6], [6]), ([7, 5, 0, 1, 2, 3, 4, 5, 6, 7], [7])])
def version_Body.B1 : List Nat := [0, 0, 0, 6, 14, 31, 63, 127, 127, 255]
theorem version_Body.tab1 : rtab .any (opsOf Try.f20 1) = version_Body.T1 := by kernel_rfl
theorem version_Body.bits1 : waitsOk version_Body.T1.2 version_Body.B1 = true := by kernel_rfl
set_option maxHeartbeats 8000000 in
set_option maxRecDepth 100000 in
theorem version_Body.calls (k : Nat) (a0 : Int) (a1 : Int) (a2_0 : Int) (a2_1 : Int) (r : List Int) (w : World) (h : version_Body.f k a0 a1 a2_0 a2_1 = some r) :
    Calls Try.prog 20 #[.int .i64 a0, .int .i64 a1, .agg #[.int .i64 a2_0, .int .i64 a2_1]] w fun e w' => ∃ v0_ : Value, e = .returned (v0_) ∧ Kd.R (Kd.int .u8) 5 w' w.heap.size (fun _ => True) v0_ r ∧ Below w.heap.size w w' := by
  have hu28 := Try.underlying28
  have HB := AsZ.mk (Below.refl w.heap.size w)
  have H : ((version_Length.f a0 a1).bind fun t152 => ((span_Meet.f a2_0 a2_1 0 t152).bind fun bt153 => ((span_Len.f bt153.1 bt153.2.1).bind fun t156 => (version_Body.l0 k a0 a1 ([] : List Int) t156 0 bt153.1 bt153.2.1)))) = some r := h
  clear h
  replace H := Option.bind_eq_some_iff.mp H
  obtain ⟨t152, A40, H⟩ := H
  replace H : ((span_Meet.f a2_0 a2_1 0 t152).bind fun bt153 => ((span_Len.f bt153.1 bt153.2.1).bind fun t156 => (version_Body.l0 k a0 a1 ([] : List Int) t156 0 bt153.1 bt153.2.1))) = some r := H
  have A4 := AsZ.mk A40
  clear A40
  replace H := Option.bind_eq_some_iff.mp H
  obtain ⟨⟨t153, t154, t155⟩, A50, H⟩ := H
  replace H : ((span_Len.f t153 t154).bind fun t156 => (version_Body.l0 k a0 a1 ([] : List Int) t156 0 t153 t154)) = some r := H
  have A5 := AsZ.mk A50
  clear A50
  replace H := Option.bind_eq_some_iff.mp H
  obtain ⟨t156, A60, H⟩ := H
  replace H : (version_Body.l0 k a0 a1 ([] : List Int) t156 0 t153 t154) = some r := H
  have A6 := AsZ.mk A60
  clear A60
  have H' := AsZ.mk H
  clear H
  go_enter Try.func20, Try.ntmps20
  try go_wp2_with (first | ((with_reducible refine gDs (N := 5) rfl ?_); refine bEv ?hg (N := 5) ?hd (cs := #[.int .i64 a2_0, .int .i64 a2_1]) (t := 28) ?hr ?_; (case hd => rfl); (case hg => rfl); (case hr => first | (go_simp; done) | (go_simp; rfl)); intro gb151 hg w7 hbox hb; have n0_ := AsZ.mk (tBl (by repeat (first | (with_reducible first | exact HB.out | apply aBl | apply pBd | apply dBl) | exact HB.out)) hb); have n1_ := AsZ.mk (hbox); have n2_ := AsZ.mk ((by rw [hg]; exact (zBl (by repeat (first | (with_reducible first | exact HB.out | apply aBl | apply pBd | apply dBl) | exact HB.out))) : w.heap.size ≤ gb151)); have n3_ := AsZ.mk ((by rw [hg]; exact (zBl (by repeat (first | (with_reducible first | exact HB.out | apply aBl | apply pBd | apply dBl) | exact HB.out))) : w.heap.size ≤ gb151)); clear HB; have HB := n0_; have BK151 := n1_; have GW151 := n2_; have GE151 := n3_; clear n0_ n1_ n2_ n3_; clear hb hbox hg))
  have n0_ := AsZ.mk (bDr BK151.out)
  have n1_ := AsZ.mk (dBl HB.out)
  clear BK151
  clear HB
  have BK151 := n0_
  have HB := n1_
  clear n0_ n1_
  refine start_ (n := 10) (S := fun w' => w'.cell? ⟨gb151, 0, none⟩ = some (.int .i64 a2_0) ∧ w'.cell? ⟨gb151, 1, none⟩ = some (.int .i64 a2_1)) (ds := [9]) #[false, false, false, false, false, false, false, false, false, false] (by kernel_rfl) rfl rfl ⟨(bCe BK151.out 0).trans rfl, (bCe BK151.out 1).trans rfl⟩ (fun hHeld => ?_); refine with_tabW version_Body.tab1 version_Body.bits1 (fun HT_ HW_ => ?_)
  generalize w7.drew = w8 at BK151 HB hHeld ⊢
  refine pure_ (i := 1) (N := some 11) (v := ?_) (a' := ?_) #[false, true, false, false, false, false, false, false, false, false] rfl rfl (any_of HT_.out (by kernel_rfl)) (fun _ _ _ h => h) (Or.inl ⟨by rfl, ?_⟩) ?_ ?_
  rotate_left
  · intro w'
    go_simp
    with_reducible rfl
  rotate_left
  · simp only [Act.put, List.setIfInBounds_toArray, List.set_cons_zero, List.set_cons_succ, i64_w, i32_w]
    rfl
  refine pure_ (i := 2) (N := some 12) (v := ?_) (a' := ?_) #[false, true, true, false, false, false, false, false, false, false] rfl rfl (any_of HT_.out (by kernel_rfl)) (fun _ _ _ h => h) (Or.inl ⟨by rfl, ?_⟩) ?_ ?_
  rotate_left
  · intro w'
    go_simp
    with_reducible rfl
  rotate_left
  · simp only [Act.put, List.setIfInBounds_toArray, List.set_cons_zero, List.set_cons_succ, i64_w, i32_w]
    rfl
  refine take_ (i := 0) (N := some 10) (v := ?_) (a' := ?_) #[true, true, true, false, false, false, false, false, false, false] rfl rfl (take_ofW HT_.out HW_.out (by kernel_rfl)) (fun _ _ _ h => h) (Or.inl ⟨by rfl, ?_⟩) hHeld ?_ ?_
  rotate_left
  · rintro w' ⟨s0, s1⟩
    go_simp
    with_reducible rfl
  rotate_left
  · simp only [Act.put, List.setIfInBounds_toArray, List.set_cons_zero, List.set_cons_succ, i64_w, i32_w]
    rfl
  refine one_ (i := 3) (N := some 13) #[true, true, true, true, false, false, false, false, false, false] rfl rfl (one_of HT_.out (by kernel_rfl)) (by decide) (fun K hK => ?_)
  refine goes_ Try.func16 (by kernel_rfl) rfl #[.int .i64 a0, .int .i64 a1] (by rfl) rfl rfl (by (try simp only [List.map_toArray, List.map_cons, List.map_nil]); first | done | rfl | (simp only [List.length_drop, List.length_take]; rfl)) ?_
  with_reducible refine (version_Length.calls a0 a1 t152 _ A4.out).mono ?_
  rintro e w' ⟨rfl, ⟨nd, rfl⟩⟩
  refine ⟨_, rfl, ?_⟩
  refine hK.out _ _ ⟨(bCe BK151.out 0).trans rfl, (bCe BK151.out 1).trans rfl⟩ (fun hHeld => ?_)
  clear hK K
  refine norm_ (a' := ?_) ?_ ?_
  rotate_left
  · show Act.put _ (some 13) _ = _
    simp only [Act.put, List.setIfInBounds_toArray, List.set_cons_zero, List.set_cons_succ, i64_w, i32_w]
    rfl
  refine pure_ (i := 4) (N := some 14) (v := ?_) (a' := ?_) #[true, true, true, true, true, false, false, false, false, false] rfl rfl (any_of HT_.out (by kernel_rfl)) (fun _ _ _ h => h) (Or.inl ⟨by rfl, ?_⟩) ?_ ?_
  rotate_left
  · intro w'
    go_simp
    with_reducible rfl
  rotate_left
  · simp only [Act.put, List.setIfInBounds_toArray, List.set_cons_zero, List.set_cons_succ, i64_w, i32_w]
    rfl
  refine one_ (i := 5) (N := some 15) #[true, true, true, true, true, true, false, false, false, false] rfl rfl (one_of HT_.out (by kernel_rfl)) (by decide) (fun K hK => ?_)
  refine goes_ Try.func50 (by kernel_rfl) rfl #[.agg #[.int .i64 a2_0, .int .i64 a2_1], .agg #[.int .i64 0, .int .i64 t152]] (by rfl) rfl rfl (by (try simp only [List.map_toArray, List.map_cons, List.map_nil]); first | done | rfl | (simp only [List.length_drop, List.length_take]; rfl)) ?_
  with_reducible refine (span_Meet.calls a2_0 a2_1 0 t152 t153 t154 t155 _ A5.out).mono ?_
  rintro e w9 ⟨rfl, hb⟩
  refine ⟨_, rfl, ?_⟩
  have n0_ := AsZ.mk (bBl (g := gb151) (o := .cells #[.int .i64 a2_0, .int .i64 a2_1] 28 (0, 0)) (by (with_reducible repeat (first | refine bDn ?_ _ | refine bDr ?_ | refine bAl ?_ _)); exact BK151.out) hb)
  have n1_ := AsZ.mk (tBl (by repeat (first | (with_reducible first | exact HB.out | apply aBl | apply pBd | apply dBl | refine sBl ?_ GE151.out) | exact HB.out)) hb)
  clear BK151
  clear HB
  have BK151 := n0_
  have HB := n1_
  clear n0_ n1_
  (try clear hb)
  (try clear hb2)
  (try clear hk)
  (try clear hi)
  refine hK.out _ _ ⟨(bCe BK151.out 0).trans rfl, (bCe BK151.out 1).trans rfl⟩ (fun hHeld => ?_)
  clear hK K
  refine norm_ (a' := ?_) ?_ ?_
  rotate_left
  · show Act.put _ (some 15) _ = _
    simp only [Act.put, List.setIfInBounds_toArray, List.set_cons_zero, List.set_cons_succ, i64_w, i32_w]
    rfl
  refine pure_ (i := 6) (N := some 9) (v := ?_) (a' := ?_) #[true, true, true, true, true, true, true, false, false, false] rfl rfl (any_of HT_.out (by kernel_rfl)) (fun _ _ _ h => h) (Or.inl ⟨by rfl, ?_⟩) ?_ ?_
  rotate_left
  · intro w'
    go_simp
    with_reducible rfl
  rotate_left
  · simp only [Act.put, List.setIfInBounds_toArray, List.set_cons_zero, List.set_cons_succ, i64_w, i32_w]
    rfl
  refine pure_ (i := 7) (N := some 16) (v := ?_) (a' := ?_) #[true, true, true, true, true, true, true, true, false, false] rfl rfl (any_of HT_.out (by kernel_rfl)) (fun _ _ _ h => h) (Or.inl ⟨by rfl, ?_⟩) ?_ ?_
  rotate_left
  · intro w'
    go_simp
    with_reducible rfl
  rotate_left
  · simp only [Act.put, List.setIfInBounds_toArray, List.set_cons_zero, List.set_cons_succ, i64_w, i32_w]
    rfl
  refine pure_ (i := 8) (N := some 17) (v := ?_) (a' := ?_) #[true, true, true, true, true, true, true, true, true, false] rfl rfl (any_of HT_.out (by kernel_rfl)) (fun _ _ _ h => h) (Or.inl ⟨by rfl, ?_⟩) ?_ ?_
  rotate_left
  · intro w'
    go_simp
    with_reducible rfl
  rotate_left
  · simp only [Act.put, List.setIfInBounds_toArray, List.set_cons_zero, List.set_cons_succ, i64_w, i32_w]
    rfl
  refine last_ (i := 9) (N := none) #[true, true, true, true, true, true, true, true, true, true] rfl rfl (one_of HT_.out (by kernel_rfl)) (by decide) (fun K hK => ?_)
  have hs10 : w9.cell? ⟨gb151, 0, none⟩ = some (.int .i64 a2_0) := (bCe BK151.out 0).trans rfl
  have hfs10 := bFz BK151.out 0
  have hs11 : w9.cell? ⟨gb151, 1, none⟩ = some (.int .i64 a2_1) := (bCe BK151.out 1).trans rfl
  have hfs11 := bFz BK151.out 1
  refine skip_ (w1 := ?_) (by rfl) rfl ?_ ?_
  rotate_left
  · go_simp
    rfl
  refine hK.out _ _ ?_
  clear hK K
  refine done_ (done_of HT_.out (by kernel_rfl)) ?_
  have hcz12_0 : w9.cell? ⟨gb151, 0, none⟩ = some (.int .i64 a2_0) := (bCe BK151.out 0).trans rfl
  have hcz12_1 : w9.cell? ⟨gb151, 1, none⟩ = some (.int .i64 a2_1) := (bCe BK151.out 1).trans rfl
  have hfz12_0 := bFz BK151.out 0
  have hfz12_1 := bFz BK151.out 1
  try go_wp2_with (first | ((with_reducible refine gCa (f := 51) rfl ?_); refine gLl (some 19) rfl rfl Try.func51 (by kernel_rfl) rfl #[.agg #[.int .i64 t153, .int .i64 t154]] rfl (by (try simp only [List.map_toArray, List.map_cons, List.map_nil]); first | done | rfl | (simp only [List.length_drop, List.length_take]; rfl)) ?_; (with_reducible refine (span_Len.calls t153 t154 t156 _ A6.out).mono ?_); rintro e w13 ⟨rfl, hb⟩; refine ⟨_, rfl, ?_⟩; have n0_ := AsZ.mk (bBl (g := gb151) (o := .cells #[.int .i64 t153, .int .i64 t154] 28 (0, 0)) (by (with_reducible repeat (first | refine bDn ?_ _ | refine bDr ?_ | refine bAl ?_ _)); refine bPu (cs := #[.int .i64 t153, .int .i64 a2_1]) ?_ 1 _ rfl; (with_reducible repeat (first | refine bDn ?_ _ | refine bDr ?_ | refine bAl ?_ _)); refine bPu (cs := #[.int .i64 a2_0, .int .i64 a2_1]) ?_ 0 _ rfl; (with_reducible repeat (first | refine bDn ?_ _ | refine bDr ?_ | refine bAl ?_ _)); exact BK151.out) hb); have n1_ := AsZ.mk (tBl (by repeat (first | (with_reducible first | exact HB.out | apply aBl | apply pBd | apply dBl | refine sBl ?_ GE151.out) | exact HB.out)) hb); clear BK151; clear HB; have BK151 := n0_; have HB := n1_; clear n0_ n1_; (try clear hb); (try clear hb2); (try clear hk); (try clear hi)))
  go_loopg [7, 20] k (fun kq v7 v20 w' => ∃ (x7_1 : List Int) (x20_1 : Int), v20 = .int .i64 x20_1 ∧ AsZ (version_Body.l0 kq a0 a1 x7_1 t156 x20_1 t153 t154 = some r) ∧ AsZ (kq ≤ k) ∧ AsZ (Kd.R (Kd.int .u8) 5 w' w.heap.size (fun _ => True) v7 x7_1) ∧ AsZ (w'.heap[gb151]? = some (.cells #[.int .i64 t153, .int .i64 t154] 28 (0, 0))) ∧ AsZ (Below w.heap.size w w'))
  case atStart => exact ⟨(([] : List Int)), (0), (by first | rfl | (simp; done) | (simp [*]; done)), H', ⟨Nat.le_refl _⟩, ⟨by first | exact Kd.R_nil _ _ _ _ _ | exact Kd.N_nil _ _ _ _ _ | exact Kd.V_nil _ _ _ _ _ | exact Kd.Q_nil _ _ _ _ _ | exact Kd.S_nil _ _ _ _ _⟩, ⟨by (with_reducible repeat (first | refine bDn ?_ _ | refine bDr ?_ | refine bAl ?_ _)); exact BK151.out⟩, ⟨by repeat (first | (with_reducible first | exact HB.out | apply aBl | apply pBd | apply dBl | refine sBl ?_ GE151.out) | exact HB.out)⟩⟩
  case round =>
    clear H'
    try clear c1
    try clear c2
    try clear p2
    try clear c5
    try clear hcz12_0
    try clear hcz12_1
    try clear hfz12_0
    try clear hfz12_1
    obtain ⟨x7_1, x20_1, rfl, HA, HK1, HO_7, BK151, HB⟩ := hrel
    cases gk with
    | zero => exact absurd HA.out (by simp [version_Body.l0])
    | succ k1 =>
      have H := HA.out
      clear HA
      simp only [version_Body.l0] at H
      by_cases c14 : x20_1 < t156
      · rw [if_pos c14] at H
        have c14b0 : decide (x20_1 < t156) = true := decide_eq_true c14
        clear c14
        replace H := Option.bind_eq_some_iff.mp H
        obtain ⟨t157, A150, H⟩ := H
        replace H : (if x7_1.length < 140737488355328 then (version_Body.l0 k1 a0 a1 (x7_1 ++ [t157]) t156 (wrap64 (x20_1 + 1)) t153 t154) else (none)) = some r := H
        have A15 := AsZ.mk A150
        clear A150
        by_cases c16 : x7_1.length < 140737488355328
        · rw [if_pos c16] at H
          have LMc16 := AsZ.mk c16
          clear c16
          obtain ⟨y158, hy158⟩ : ∃ y_ : List Int, y_ = (x7_1 ++ [t157]) := ⟨_, rfl⟩
          replace H : (version_Body.l0 k1 a0 a1 y158 t156 (wrap64 (x20_1 + 1)) t153 t154) = some r := by first | (rw [hy158]; with_reducible exact H) | (have H2_ := (Option.bind_some _ _).symm.trans H; rw [hy158]; with_reducible exact H2_) | (have H2_ := (Option.bind_some _ _).symm.trans H; with_reducible exact H2_) | with_reducible exact H | (rw [hy158]; exact H) | exact H
          have Ny158 := AsZ.mk hy158
          clear hy158
          have H' := AsZ.mk H
          clear H
          have hcz17_0 : wr.cell? ⟨gb151, 0, none⟩ = some (.int .i64 t153) := (bCe BK151.out 0).trans rfl
          have hcz17_1 : wr.cell? ⟨gb151, 1, none⟩ = some (.int .i64 t154) := (bCe BK151.out 1).trans rfl
          have hfz17_0 := bFz BK151.out 0
          have hfz17_1 := bFz BK151.out 1
          go_wp2_with (first | ((with_reducible refine gCa (f := 17) rfl ?_); refine gLl (some 30) rfl rfl Try.func17 (by kernel_rfl) rfl #[.int .i64 a0, .int .i64 a1, .int .i64 (wrap64 (t153 + x20_1))] rfl (by (try simp only [List.map_toArray, List.map_cons, List.map_nil]); first | done | rfl | (simp only [List.length_drop, List.length_take]; rfl)) ?_; (with_reducible refine (version_Byte.calls a0 a1 (wrap64 (t153 + x20_1)) t157 _ A15.out).mono ?_); rintro e w' ⟨rfl, ⟨nd, rfl⟩⟩; refine ⟨_, rfl, ?_⟩) | ((with_reducible refine gate_builtin (b := .append) (xs := #[.tmp 23, .tmp 31]) rfl ?_); at_builtin; refine Kd.R_append (Kd.int .u8) (w0 := w) w.heap.size rfl (.tmp 23) (.tmp 31) 32 5 (.int .u8 0) 1 rfl Try.underlying32 info5 rfl (by decide) (by omega) u7 x7_1 t157 [.int .u8 t157] (fun _ => True) (fun _ => False) rfl rfl ?aP (fun _ hk => hk.elim) ?aF ?aO ?aB ?aS ?aL ?_; (case aP => exact rfl); (case aB => exact (by repeat (first | (with_reducible first | exact HB.out | apply aBl | apply pBd | apply dBl | refine sBl ?_ GE151.out) | exact HB.out))); (case aF => exact (fun _ _ => trivial)); (case aO => exact (by (with_reducible repeat (first | apply Kd.R_alloc | apply Kd.R_drewN | apply Kd.R_drew)); exact HO_7.out)); (case aS => exact (zBl (by repeat (first | (with_reducible first | exact HB.out | apply aBl | apply pBd | apply dBl | refine sBl ?_ GE151.out) | exact HB.out)))); (case aL => have := LMc16.out; omega); intro v159 w18 ho hb hg hat; rw [← Ny158.out] at ho; have n0_ := AsZ.mk (blk_grown (g := gb151) (o := .cells #[.int .i64 t153, .int .i64 t154] 28 (0, 0)) (by (with_reducible repeat (first | refine bDn ?_ _ | refine bDr ?_ | refine bAl ?_ _)); exact BK151.out) hg (Kd.R_ne HO_7.out BK151.out (by decide))); have n1_ := AsZ.mk (hb); have n2_ := AsZ.mk (ho); clear BK151; clear HB; clear HO_7; have BK151 := n0_; have HB := n1_; have HO160 := n2_; clear n0_ n1_ n2_; clear ho hb hg hat))
          go_roundg k1
          case measure => have := HK1.out; omega
          case rel => exact ⟨(y158), (wrap64 (x20_1 + 1)), (by first | rfl | (simp; done) | (simp [*]; done)), H', ⟨by have := HK1.out; omega⟩, ⟨by (with_reducible repeat (first | apply Kd.R_alloc | apply Kd.R_drewN | apply Kd.R_drew)); exact HO160.out⟩, ⟨by (with_reducible repeat (first | refine bDn ?_ _ | refine bDr ?_ | refine bAl ?_ _)); exact BK151.out⟩, ⟨by repeat (first | (with_reducible first | exact HB.out | apply aBl | apply pBd | apply dBl | refine sBl ?_ GE151.out) | exact HB.out)⟩⟩
        · rw [if_neg c16] at H
          exact absurd H (by simp)
      · rw [if_neg c14] at H
        have c14b0 : decide (x20_1 < t156) = false := decide_eq_false c14
        clear c14
        obtain rfl := Option.some.inj H
        go_wp2
        go_ret
        exact ⟨_, by first | rfl | (simp [eWn, eWs] <;> rfl) | (simp [*, eWn, eWs] <;> rfl), by (with_reducible repeat (first | apply Kd.R_alloc | apply Kd.R_drewN | apply Kd.R_drew)); exact HO_7.out, by repeat (first | (with_reducible first | exact HB.out | apply aBl | apply pBd | apply dBl | refine sBl ?_ GE151.out) | exact HB.out)⟩
end Go.Proofs.Ytfcengffgkmacaa.PAll
namespace Go.Proofs.Ytfcengffgkmacaa.PAll
open Go.RowKit Go.Proofs.Ytfcengffgkmacaa.Xw Go.Proofs.YtfcengffgkmacaaW.PrintWords Go.Proofs.YtfcengffgkmacaaW.PrintLast Go.Proofs.YtfcengffgkmacaaW.PrintMore
attribute [local go_sem] max2_int min2_int max_two min_two max_three min_three max_four min_four   -- for this text's walks alone
set_option linter.unusedVariables false
set_option linter.unusedSimpArgs false
theorem eqA28 (d : Nat) (w : World) (x0 y0 : Int) (x1 y1 : Int) :
    (Op.equalIn (d + 2) 28 (.agg #[.int .i64 x0, .int .i64 x1]) (.agg #[.int .i64 y0, .int .i64 y1])).run Try.prog w = .ok (x0 == y0 && (x1 == y1)) w := by
  refine eqA_of Try.underlying28 (by kernel_rfl) ?_
  refine eqf_cons (by rfl) (by go_simp; rfl) (by go_simp; rfl) (by go_simp) ?_
  exact eqf_last (by rfl) (by go_simp; rfl) (by go_simp; rfl) (by go_simp)
end Go.Proofs.Ytfcengffgkmacaa.PAll
namespace Go.Proofs.Ytfcengffgkmacaa.PAll
open Go.RowKit Go.Proofs.Ytfcengffgkmacaa.Xw Go.Proofs.YtfcengffgkmacaaW.PrintWords Go.Proofs.YtfcengffgkmacaaW.PrintLast Go.Proofs.YtfcengffgkmacaaW.PrintMore
attribute [local go_sem] max2_int min2_int max_two min_two max_three min_three max_four min_four   -- for this text's walks alone
set_option linter.unusedVariables false
set_option linter.unusedSimpArgs false
attribute [local go_sem high] eqA28
def reply_Gone.f  : Option (Int × ByteArray × Int × ByteArray × List Int) := some (404, (⟨#[]⟩ : ByteArray), 0, (⟨#[]⟩ : ByteArray), ([] : List Int))
set_option maxHeartbeats 8000000 in
set_option maxRecDepth 100000 in
theorem reply_Gone.calls  (r1 : Int) (r2 : ByteArray) (r3 : Int) (r4 : ByteArray) (r5 : List Int) (w : World) (h : reply_Gone.f  = some (r1, r2, r3, r4, r5)) :
    Calls Try.prog 41 #[] w fun e w' => ∃ v4_ : Value, e = .returned (.agg #[.int .i64 r1, .string r2, .int .i64 r3, .string r4, v4_]) ∧ Kd.R (Kd.int .u8) 5 w' w.heap.size (fun _ => True) v4_ r5 ∧ Below w.heap.size w w' := by
  have hu64 := Try.underlying64
  have HB := AsZ.mk (Below.refl w.heap.size w)
  have H : (some (404, (⟨#[]⟩ : ByteArray), 0, (⟨#[]⟩ : ByteArray), ([] : List Int))) = some (r1, r2, r3, r4, r5) := h
  clear h
  simp only [Option.some.injEq, Prod.mk.injEq] at H
  obtain ⟨rfl, rfl, rfl, rfl, rfl⟩ := H
  go_enter Try.func41, Try.ntmps41
  go_wp2_with (first | ((with_reducible refine gDs (N := 0) rfl ?_); refine bEv ?hg (N := 0) ?hd (cs := #[.int .i64 0, .string (⟨#[]⟩ : ByteArray), .int .i64 0, .string (⟨#[]⟩ : ByteArray), .slice none 0 0]) (t := 64) ?hr ?_; (case hd => rfl); (case hg => rfl); (case hr => first | (go_simp; done) | (go_simp; rfl)); intro gb210 hg w1 hbox hb; have n0_ := AsZ.mk (tBl (by repeat (first | (with_reducible first | exact HB.out | apply aBl | apply pBd | apply dBl) | exact HB.out)) hb); have n1_ := AsZ.mk (hbox); have n2_ := AsZ.mk ((by rw [hg]; exact (zBl (by repeat (first | (with_reducible first | exact HB.out | apply aBl | apply pBd | apply dBl) | exact HB.out))) : w.heap.size ≤ gb210)); have n3_ := AsZ.mk ((by rw [hg]; exact (zBl (by repeat (first | (with_reducible first | exact HB.out | apply aBl | apply pBd | apply dBl) | exact HB.out))) : w.heap.size ≤ gb210)); clear HB; have HB := n0_; have BK210 := n1_; have GW210 := n2_; have GE210 := n3_; clear n0_ n1_ n2_ n3_; clear hb hbox hg; have hcz2_0 : w1.cell? ⟨gb210, 0, none⟩ = some (.int .i64 0) := (bCe BK210.out 0).trans rfl; have hcz2_1 : w1.cell? ⟨gb210, 1, none⟩ = some (.string (⟨#[]⟩ : ByteArray)) := (bCe BK210.out 1).trans rfl; have hcz2_2 : w1.cell? ⟨gb210, 2, none⟩ = some (.int .i64 0) := (bCe BK210.out 2).trans rfl; have hcz2_3 : w1.cell? ⟨gb210, 3, none⟩ = some (.string (⟨#[]⟩ : ByteArray)) := (bCe BK210.out 3).trans rfl; have hcz2_4 : w1.cell? ⟨gb210, 4, none⟩ = some (.slice none 0 0) := (bCe BK210.out 4).trans rfl; have hfz2_0 := bFz BK210.out 0; have hfz2_1 := bFz BK210.out 1; have hfz2_2 := bFz BK210.out 2; have hfz2_3 := bFz BK210.out 3; have hfz2_4 := bFz BK210.out 4))
  refine bodyPost_ret (results_cell_row rfl _ _ gb210 64 #[.int .i64 404, .string (⟨#[]⟩ : ByteArray), .int .i64 0, .string (⟨#[]⟩ : ByteArray), .slice none 0 0] (0, 0) _ rfl (by (with_reducible repeat (first | refine bDn ?_ _ | refine bDr ?_ | refine bAl ?_ _)); refine bPu (cs := #[.int .i64 404, .string (⟨#[]⟩ : ByteArray), .int .i64 0, .string (⟨#[]⟩ : ByteArray), .slice none 0 0]) ?_ 4 _ rfl; (with_reducible repeat (first | refine bDn ?_ _ | refine bDr ?_ | refine bAl ?_ _)); refine bPu (cs := #[.int .i64 404, .string (⟨#[]⟩ : ByteArray), .int .i64 0, .string (⟨#[]⟩ : ByteArray), .slice none 0 0]) ?_ 3 _ rfl; (with_reducible repeat (first | refine bDn ?_ _ | refine bDr ?_ | refine bAl ?_ _)); refine bPu (cs := #[.int .i64 404, .string (⟨#[]⟩ : ByteArray), .int .i64 0, .string (⟨#[]⟩ : ByteArray), .slice none 0 0]) ?_ 2 _ rfl; (with_reducible repeat (first | refine bDn ?_ _ | refine bDr ?_ | refine bAl ?_ _)); refine bPu (cs := #[.int .i64 404, .string (⟨#[]⟩ : ByteArray), .int .i64 0, .string (⟨#[]⟩ : ByteArray), .slice none 0 0]) ?_ 1 _ rfl; (with_reducible repeat (first | refine bDn ?_ _ | refine bDr ?_ | refine bAl ?_ _)); refine bPu (cs := #[.int .i64 0, .string (⟨#[]⟩ : ByteArray), .int .i64 0, .string (⟨#[]⟩ : ByteArray), .slice none 0 0]) ?_ 0 _ rfl; (with_reducible repeat (first | refine bDn ?_ _ | refine bDr ?_ | refine bAl ?_ _)); exact BK210.out) Try.underlying64 rfl (by kernel_rfl)) rfl ?_
  exact ⟨_, by first | rfl | (simp [eWn, eWs] <;> rfl) | (simp [*, eWn, eWs] <;> rfl), by first | exact Kd.R_nil _ _ _ _ _ | exact Kd.N_nil _ _ _ _ _ | exact Kd.V_nil _ _ _ _ _ | exact Kd.Q_nil _ _ _ _ _ | exact Kd.S_nil _ _ _ _ _, by repeat (first | (with_reducible first | exact HB.out | apply aBl | apply pBd | apply dBl | refine sBl ?_ GE210.out) | exact HB.out)⟩
def reply_head.f (a0_0 : Int) (a0_1 : Bool) (a0_2 : ByteArray) (a0_3 : Int) (a0_4 : Int) (a1 : ByteArray) (a2 : Int) : Option (Int × ByteArray × Int × ByteArray × List Int) := if a0_2.toList = a1.toList then (some (304, a1, 0, (⟨#[]⟩ : ByteArray), ([] : List Int))) else (some (200, a1, a2, (⟨#[]⟩ : ByteArray), ([] : List Int)))
set_option maxHeartbeats 8000000 in
set_option maxRecDepth 100000 in
theorem reply_head.calls (a0_0 : Int) (a0_1 : Bool) (a0_2 : ByteArray) (a0_3 : Int) (a0_4 : Int) (a1 : ByteArray) (a2 : Int) (r1 : Int) (r2 : ByteArray) (r3 : Int) (r4 : ByteArray) (r5 : List Int) (w : World) (h : reply_head.f a0_0 a0_1 a0_2 a0_3 a0_4 a1 a2 = some (r1, r2, r3, r4, r5)) :
    Calls Try.prog 65 #[.agg #[.int .i64 a0_0, .bool a0_1, .string a0_2, .int .i64 a0_3, .int .i64 a0_4], .string a1, .int .i64 a2] w fun e w' => ∃ v4_ : Value, e = .returned (.agg #[.int .i64 r1, .string r2, .int .i64 r3, .string r4, v4_]) ∧ Kd.R (Kd.int .u8) 5 w' w.heap.size (fun _ => True) v4_ r5 ∧ Below w.heap.size w w' := by
  have hu67 := Try.underlying67
  have hu64 := Try.underlying64
  have HB := AsZ.mk (Below.refl w.heap.size w)
  have H : (if a0_2.toList = a1.toList then (some (304, a1, 0, (⟨#[]⟩ : ByteArray), ([] : List Int))) else (some (200, a1, a2, (⟨#[]⟩ : ByteArray), ([] : List Int)))) = some (r1, r2, r3, r4, r5) := h
  clear h
  by_cases c4 : a0_2.toList = a1.toList
  · rw [if_pos c4] at H
    have c4b0 : (a0_2.toList == a1.toList) = true := beq_iff_eq.mpr c4
    have c4b1 : (a0_2.toList != a1.toList) = false := bne_eq_false_iff_eq.mpr c4
    clear c4
    simp only [Option.some.injEq, Prod.mk.injEq] at H
    obtain ⟨rfl, rfl, rfl, rfl, rfl⟩ := H
    go_enter Try.func65, Try.ntmps65
    go_wp2_with (first | ((with_reducible refine gDs (N := 3) rfl ?_); refine bEv ?hg (N := 3) ?hd (cs := #[.int .i64 a0_0, .bool a0_1, .string a0_2, .int .i64 a0_3, .int .i64 a0_4]) (t := 67) ?hr ?_; (case hd => rfl); (case hg => rfl); (case hr => first | (go_simp; done) | (go_simp; rfl)); intro gb211 hg w5 hbox hb; have n0_ := AsZ.mk (tBl (by repeat (first | (with_reducible first | exact HB.out | apply aBl | apply pBd | apply dBl) | exact HB.out)) hb); have n1_ := AsZ.mk (hbox); have n2_ := AsZ.mk ((by rw [hg]; exact (zBl (by repeat (first | (with_reducible first | exact HB.out | apply aBl | apply pBd | apply dBl) | exact HB.out))) : w.heap.size ≤ gb211)); have n3_ := AsZ.mk ((by rw [hg]; exact (zBl (by repeat (first | (with_reducible first | exact HB.out | apply aBl | apply pBd | apply dBl) | exact HB.out))) : w.heap.size ≤ gb211)); clear HB; have HB := n0_; have BK211 := n1_; have GW211 := n2_; have GE211 := n3_; clear n0_ n1_ n2_ n3_; clear hb hbox hg) | ((with_reducible refine gDs (N := 6) rfl ?_); refine bEv ?hg (N := 6) ?hd (cs := #[.int .i64 0, .string (⟨#[]⟩ : ByteArray), .int .i64 0, .string (⟨#[]⟩ : ByteArray), .slice none 0 0]) (t := 64) ?hr ?_; (case hd => rfl); (case hg => rfl); (case hr => first | (go_simp; done) | (go_simp; rfl)); intro gb212 hg w6 hbox hb; have n0_ := AsZ.mk (bBl (g := gb211) (o := .cells #[.int .i64 a0_0, .bool a0_1, .string a0_2, .int .i64 a0_3, .int .i64 a0_4] 67 (0, 0)) (by (with_reducible repeat (first | refine bDn ?_ _ | refine bDr ?_ | refine bAl ?_ _)); exact BK211.out) hb); have n1_ := AsZ.mk (tBl (by repeat (first | (with_reducible first | exact HB.out | apply aBl | apply pBd | apply dBl | refine sBl ?_ GE211.out) | exact HB.out)) hb); have n2_ := AsZ.mk (hbox); have n3_ := AsZ.mk ((by rw [hg]; exact (zBl (by repeat (first | (with_reducible first | exact HB.out | apply aBl | apply pBd | apply dBl | refine sBl ?_ GE211.out) | exact HB.out))) : w.heap.size ≤ gb212)); have n4_ := AsZ.mk ((by rw [hg]; exact (zBl (by repeat (first | (with_reducible first | exact HB.out | apply aBl | apply pBd | apply dBl | refine sBl ?_ GE211.out) | exact HB.out))) : w.heap.size ≤ gb212)); have n5_ := AsZ.mk ((by rw [hg]; exact Nat.ne_of_lt (bLt (g := gb211) (o := .cells #[.int .i64 a0_0, .bool a0_1, .string a0_2, .int .i64 a0_3, .int .i64 a0_4] 67 (0, 0)) (by (with_reducible repeat (first | refine bDn ?_ _ | refine bDr ?_ | refine bAl ?_ _)); exact BK211.out)) : gb211 ≠ gb212)); have n6_ := AsZ.mk ((by rw [hg]; exact Nat.ne_of_gt (bLt (g := gb211) (o := .cells #[.int .i64 a0_0, .bool a0_1, .string a0_2, .int .i64 a0_3, .int .i64 a0_4] 67 (0, 0)) (by (with_reducible repeat (first | refine bDn ?_ _ | refine bDr ?_ | refine bAl ?_ _)); exact BK211.out)) : gb212 ≠ gb211)); clear BK211; clear HB; have BK211 := n0_; have HB := n1_; have BK212 := n2_; have GW212 := n3_; have GE212 := n4_; have NB211_212 := n5_; have NB212_211 := n6_; clear n0_ n1_ n2_ n3_ n4_ n5_ n6_; clear hb hbox hg; have hnb7 := NB211_212.out; have hnc7 := NB212_211.out; have hcz8_0 : w6.cell? ⟨gb211, 0, none⟩ = some (.int .i64 a0_0) := (bCe BK211.out 0).trans rfl; have hcz8_1 : w6.cell? ⟨gb211, 1, none⟩ = some (.bool a0_1) := (bCe BK211.out 1).trans rfl; have hcz8_2 : w6.cell? ⟨gb211, 2, none⟩ = some (.string a0_2) := (bCe BK211.out 2).trans rfl; have hcz8_3 : w6.cell? ⟨gb211, 3, none⟩ = some (.int .i64 a0_3) := (bCe BK211.out 3).trans rfl; have hcz8_4 : w6.cell? ⟨gb211, 4, none⟩ = some (.int .i64 a0_4) := (bCe BK211.out 4).trans rfl; have hfz8_0 := bFz BK211.out 0; have hfz8_1 := bFz BK211.out 1; have hfz8_2 := bFz BK211.out 2; have hfz8_3 := bFz BK211.out 3; have hfz8_4 := bFz BK211.out 4; have hcz9_0 : w6.cell? ⟨gb212, 0, none⟩ = some (.int .i64 0) := (bCe BK212.out 0).trans rfl; have hcz9_1 : w6.cell? ⟨gb212, 1, none⟩ = some (.string (⟨#[]⟩ : ByteArray)) := (bCe BK212.out 1).trans rfl; have hcz9_2 : w6.cell? ⟨gb212, 2, none⟩ = some (.int .i64 0) := (bCe BK212.out 2).trans rfl; have hcz9_3 : w6.cell? ⟨gb212, 3, none⟩ = some (.string (⟨#[]⟩ : ByteArray)) := (bCe BK212.out 3).trans rfl; have hcz9_4 : w6.cell? ⟨gb212, 4, none⟩ = some (.slice none 0 0) := (bCe BK212.out 4).trans rfl; have hfz9_0 := bFz BK212.out 0; have hfz9_1 := bFz BK212.out 1; have hfz9_2 := bFz BK212.out 2; have hfz9_3 := bFz BK212.out 3; have hfz9_4 := bFz BK212.out 4))
    refine bodyPost_ret (results_cell_row rfl _ _ gb212 64 #[.int .i64 304, .string a1, .int .i64 0, .string (⟨#[]⟩ : ByteArray), .slice none 0 0] (0, 0) _ rfl (by (with_reducible repeat (first | refine bDn ?_ _ | refine bDr ?_ | refine bAl ?_ _)); refine bPu (cs := #[.int .i64 304, .string a1, .int .i64 0, .string (⟨#[]⟩ : ByteArray), .slice none 0 0]) ?_ 4 _ rfl; (with_reducible repeat (first | refine bDn ?_ _ | refine bDr ?_ | refine bAl ?_ _)); refine bPu (cs := #[.int .i64 304, .string a1, .int .i64 0, .string (⟨#[]⟩ : ByteArray), .slice none 0 0]) ?_ 3 _ rfl; (with_reducible repeat (first | refine bDn ?_ _ | refine bDr ?_ | refine bAl ?_ _)); refine bPu (cs := #[.int .i64 304, .string a1, .int .i64 0, .string (⟨#[]⟩ : ByteArray), .slice none 0 0]) ?_ 2 _ rfl; (with_reducible repeat (first | refine bDn ?_ _ | refine bDr ?_ | refine bAl ?_ _)); refine bPu (cs := #[.int .i64 304, .string (⟨#[]⟩ : ByteArray), .int .i64 0, .string (⟨#[]⟩ : ByteArray), .slice none 0 0]) ?_ 1 _ rfl; (with_reducible repeat (first | refine bDn ?_ _ | refine bDr ?_ | refine bAl ?_ _)); refine bPu (cs := #[.int .i64 0, .string (⟨#[]⟩ : ByteArray), .int .i64 0, .string (⟨#[]⟩ : ByteArray), .slice none 0 0]) ?_ 0 _ rfl; (with_reducible repeat (first | refine bDn ?_ _ | refine bDr ?_ | refine bAl ?_ _)); exact BK212.out) Try.underlying64 rfl (by kernel_rfl)) rfl ?_
    exact ⟨_, by first | rfl | (simp [eWn, eWs] <;> rfl) | (simp [*, eWn, eWs] <;> rfl), by first | exact Kd.R_nil _ _ _ _ _ | exact Kd.N_nil _ _ _ _ _ | exact Kd.V_nil _ _ _ _ _ | exact Kd.Q_nil _ _ _ _ _ | exact Kd.S_nil _ _ _ _ _, by repeat (first | (with_reducible first | exact HB.out | apply aBl | apply pBd | apply dBl | refine sBl ?_ GE211.out | refine sBl ?_ GE212.out) | exact HB.out)⟩
  · rw [if_neg c4] at H
    have c4b0 : (a0_2.toList == a1.toList) = false := beq_eq_false_iff_ne.mpr c4
    have c4b1 : (a0_2.toList != a1.toList) = true := bne_iff_ne.mpr c4
    simp only [Option.some.injEq, Prod.mk.injEq] at H
    obtain ⟨rfl, rfl, rfl, rfl, rfl⟩ := H
    go_enter Try.func65, Try.ntmps65
    go_wp2_with (first | ((with_reducible refine gDs (N := 3) rfl ?_); refine bEv ?hg (N := 3) ?hd (cs := #[.int .i64 a0_0, .bool a0_1, .string a0_2, .int .i64 a0_3, .int .i64 a0_4]) (t := 67) ?hr ?_; (case hd => rfl); (case hg => rfl); (case hr => first | (go_simp; done) | (go_simp; rfl)); intro gb211 hg w10 hbox hb; have n0_ := AsZ.mk (tBl (by repeat (first | (with_reducible first | exact HB.out | apply aBl | apply pBd | apply dBl) | exact HB.out)) hb); have n1_ := AsZ.mk (hbox); have n2_ := AsZ.mk ((by rw [hg]; exact (zBl (by repeat (first | (with_reducible first | exact HB.out | apply aBl | apply pBd | apply dBl) | exact HB.out))) : w.heap.size ≤ gb211)); have n3_ := AsZ.mk ((by rw [hg]; exact (zBl (by repeat (first | (with_reducible first | exact HB.out | apply aBl | apply pBd | apply dBl) | exact HB.out))) : w.heap.size ≤ gb211)); clear HB; have HB := n0_; have BK211 := n1_; have GW211 := n2_; have GE211 := n3_; clear n0_ n1_ n2_ n3_; clear hb hbox hg) | ((with_reducible refine gDs (N := 6) rfl ?_); refine bEv ?hg (N := 6) ?hd (cs := #[.int .i64 0, .string (⟨#[]⟩ : ByteArray), .int .i64 0, .string (⟨#[]⟩ : ByteArray), .slice none 0 0]) (t := 64) ?hr ?_; (case hd => rfl); (case hg => rfl); (case hr => first | (go_simp; done) | (go_simp; rfl)); intro gb212 hg w11 hbox hb; have n0_ := AsZ.mk (bBl (g := gb211) (o := .cells #[.int .i64 a0_0, .bool a0_1, .string a0_2, .int .i64 a0_3, .int .i64 a0_4] 67 (0, 0)) (by (with_reducible repeat (first | refine bDn ?_ _ | refine bDr ?_ | refine bAl ?_ _)); exact BK211.out) hb); have n1_ := AsZ.mk (tBl (by repeat (first | (with_reducible first | exact HB.out | apply aBl | apply pBd | apply dBl | refine sBl ?_ GE211.out) | exact HB.out)) hb); have n2_ := AsZ.mk (hbox); have n3_ := AsZ.mk ((by rw [hg]; exact (zBl (by repeat (first | (with_reducible first | exact HB.out | apply aBl | apply pBd | apply dBl | refine sBl ?_ GE211.out) | exact HB.out))) : w.heap.size ≤ gb212)); have n4_ := AsZ.mk ((by rw [hg]; exact (zBl (by repeat (first | (with_reducible first | exact HB.out | apply aBl | apply pBd | apply dBl | refine sBl ?_ GE211.out) | exact HB.out))) : w.heap.size ≤ gb212)); have n5_ := AsZ.mk ((by rw [hg]; exact Nat.ne_of_lt (bLt (g := gb211) (o := .cells #[.int .i64 a0_0, .bool a0_1, .string a0_2, .int .i64 a0_3, .int .i64 a0_4] 67 (0, 0)) (by (with_reducible repeat (first | refine bDn ?_ _ | refine bDr ?_ | refine bAl ?_ _)); exact BK211.out)) : gb211 ≠ gb212)); have n6_ := AsZ.mk ((by rw [hg]; exact Nat.ne_of_gt (bLt (g := gb211) (o := .cells #[.int .i64 a0_0, .bool a0_1, .string a0_2, .int .i64 a0_3, .int .i64 a0_4] 67 (0, 0)) (by (with_reducible repeat (first | refine bDn ?_ _ | refine bDr ?_ | refine bAl ?_ _)); exact BK211.out)) : gb212 ≠ gb211)); clear BK211; clear HB; have BK211 := n0_; have HB := n1_; have BK212 := n2_; have GW212 := n3_; have GE212 := n4_; have NB211_212 := n5_; have NB212_211 := n6_; clear n0_ n1_ n2_ n3_ n4_ n5_ n6_; clear hb hbox hg; have hnb12 := NB211_212.out; have hnc12 := NB212_211.out; have hcz13_0 : w11.cell? ⟨gb211, 0, none⟩ = some (.int .i64 a0_0) := (bCe BK211.out 0).trans rfl; have hcz13_1 : w11.cell? ⟨gb211, 1, none⟩ = some (.bool a0_1) := (bCe BK211.out 1).trans rfl; have hcz13_2 : w11.cell? ⟨gb211, 2, none⟩ = some (.string a0_2) := (bCe BK211.out 2).trans rfl; have hcz13_3 : w11.cell? ⟨gb211, 3, none⟩ = some (.int .i64 a0_3) := (bCe BK211.out 3).trans rfl; have hcz13_4 : w11.cell? ⟨gb211, 4, none⟩ = some (.int .i64 a0_4) := (bCe BK211.out 4).trans rfl; have hfz13_0 := bFz BK211.out 0; have hfz13_1 := bFz BK211.out 1; have hfz13_2 := bFz BK211.out 2; have hfz13_3 := bFz BK211.out 3; have hfz13_4 := bFz BK211.out 4; have hcz14_0 : w11.cell? ⟨gb212, 0, none⟩ = some (.int .i64 0) := (bCe BK212.out 0).trans rfl; have hcz14_1 : w11.cell? ⟨gb212, 1, none⟩ = some (.string (⟨#[]⟩ : ByteArray)) := (bCe BK212.out 1).trans rfl; have hcz14_2 : w11.cell? ⟨gb212, 2, none⟩ = some (.int .i64 0) := (bCe BK212.out 2).trans rfl; have hcz14_3 : w11.cell? ⟨gb212, 3, none⟩ = some (.string (⟨#[]⟩ : ByteArray)) := (bCe BK212.out 3).trans rfl; have hcz14_4 : w11.cell? ⟨gb212, 4, none⟩ = some (.slice none 0 0) := (bCe BK212.out 4).trans rfl; have hfz14_0 := bFz BK212.out 0; have hfz14_1 := bFz BK212.out 1; have hfz14_2 := bFz BK212.out 2; have hfz14_3 := bFz BK212.out 3; have hfz14_4 := bFz BK212.out 4))
    refine bodyPost_ret (results_cell_row rfl _ _ gb212 64 #[.int .i64 200, .string a1, .int .i64 a2, .string (⟨#[]⟩ : ByteArray), .slice none 0 0] (0, 0) _ rfl (by (with_reducible repeat (first | refine bDn ?_ _ | refine bDr ?_ | refine bAl ?_ _)); refine bPu (cs := #[.int .i64 200, .string a1, .int .i64 a2, .string (⟨#[]⟩ : ByteArray), .slice none 0 0]) ?_ 4 _ rfl; (with_reducible repeat (first | refine bDn ?_ _ | refine bDr ?_ | refine bAl ?_ _)); refine bPu (cs := #[.int .i64 200, .string a1, .int .i64 a2, .string (⟨#[]⟩ : ByteArray), .slice none 0 0]) ?_ 3 _ rfl; (with_reducible repeat (first | refine bDn ?_ _ | refine bDr ?_ | refine bAl ?_ _)); refine bPu (cs := #[.int .i64 200, .string a1, .int .i64 0, .string (⟨#[]⟩ : ByteArray), .slice none 0 0]) ?_ 2 _ rfl; (with_reducible repeat (first | refine bDn ?_ _ | refine bDr ?_ | refine bAl ?_ _)); refine bPu (cs := #[.int .i64 200, .string (⟨#[]⟩ : ByteArray), .int .i64 0, .string (⟨#[]⟩ : ByteArray), .slice none 0 0]) ?_ 1 _ rfl; (with_reducible repeat (first | refine bDn ?_ _ | refine bDr ?_ | refine bAl ?_ _)); refine bPu (cs := #[.int .i64 0, .string (⟨#[]⟩ : ByteArray), .int .i64 0, .string (⟨#[]⟩ : ByteArray), .slice none 0 0]) ?_ 0 _ rfl; (with_reducible repeat (first | refine bDn ?_ _ | refine bDr ?_ | refine bAl ?_ _)); exact BK212.out) Try.underlying64 rfl (by kernel_rfl)) rfl ?_
    exact ⟨_, by first | rfl | (simp [eWn, eWs] <;> rfl) | (simp [*, eWn, eWs] <;> rfl), by first | exact Kd.R_nil _ _ _ _ _ | exact Kd.N_nil _ _ _ _ _ | exact Kd.V_nil _ _ _ _ _ | exact Kd.Q_nil _ _ _ _ _ | exact Kd.S_nil _ _ _ _ _, by repeat (first | (with_reducible first | exact HB.out | apply aBl | apply pBd | apply dBl | refine sBl ?_ GE211.out | refine sBl ?_ GE212.out) | exact HB.out)⟩
def crange_Right.j0 : Nat → Bool → Bool → Int → Int → Int → Option (Bool)
  | 0, _, _, _, _, _ => none
  | k + 1, x11, x214000, x214001, x214002, x214003 => if x11 = true then (some false) else (if x214000 = true then ((span_Right.f x214001 x214002).bind fun t215 => (if t215 = true then (if x214003 = (-1) then (some true) else (some (decide (x214002 ≤ x214003)))) else (some false))) else (if (x214001 == 0 && (x214002 == 0)) = true then (some (x214003 != (-1))) else (some false)))
def crange_Right.f (k : Nat) (a0_0 : Bool) (a0_1 : Int) (a0_2 : Int) (a0_3 : Int) : Option (Bool) := if a0_3 = (-1) then (crange_Right.j0 k false a0_0 a0_1 a0_2 a0_3) else ((nums_Fits.f a0_3 0 4611686018427387903).bind fun t214 => (crange_Right.j0 k (!t214) a0_0 a0_1 a0_2 a0_3))
theorem crange_Right.mono_l : ∀ k, (∀ y0 y1 y2 y3 y4, LeO (crange_Right.j0 k y0 y1 y2 y3 y4) (crange_Right.j0 (k + 1) y0 y1 y2 y3 y4))
  | 0 => fun _ _ _ _ _ r h => by simp [crange_Right.j0] at h
  | k + 1 => by
    have ih0 := crange_Right.mono_l k
    · intro y0 y1 y2 y3 y4
      unfold crange_Right.j0
      repeat' first
      | (with_reducible exact ih0 _ _ _ _ _)
      | (with_reducible exact LeO.refl _)
      | (with_reducible exact LeO.none _)
      | (with_reducible refine LeO.ite ?_ ?_)
      | (with_reducible refine LeO.bind ?_ (fun _ => ?_))
      | exact ih0 _ _ _ _ _
      | exact LeO.none _
      | refine LeO.ite ?_ ?_
      | refine LeO.bind ?_ (fun _ => ?_)
theorem crange_Right.mono : ∀ a0 a1 a2 a3 k, LeO (crange_Right.f k a0 a1 a2 a3) (crange_Right.f (k + 1) a0 a1 a2 a3) := by
  intro a0 a1 a2 a3 k
  have ih0 := crange_Right.mono_l k
  unfold crange_Right.f
  repeat' first
      | (with_reducible exact ih0 _ _ _ _ _)
      | (with_reducible exact LeO.refl _)
      | (with_reducible exact LeO.none _)
      | (with_reducible refine LeO.ite ?_ ?_)
      | (with_reducible refine LeO.bind ?_ (fun _ => ?_))
      | exact ih0 _ _ _ _ _
      | exact LeO.none _
      | refine LeO.ite ?_ ?_
      | refine LeO.bind ?_ (fun _ => ?_)
set_option maxHeartbeats 8000000 in
set_option maxRecDepth 100000 in
theorem crange_Right.calls (k : Nat) (a0_0 : Bool) (a0_1 : Int) (a0_2 : Int) (a0_3 : Int) (r : Bool) (w : World) (h : crange_Right.f k a0_0 a0_1 a0_2 a0_3 = some r) :
    Calls Try.prog 73 #[.agg #[.bool a0_0, .int .i64 a0_1, .int .i64 a0_2, .int .i64 a0_3]] w fun e w' => e = .returned (.bool r) ∧ Below w.heap.size w w' := by
  have hu91 := Try.underlying91
  have hu28 := Try.underlying28
  have HB := AsZ.mk (Below.refl w.heap.size w)
  have H : (if a0_3 = (-1) then (crange_Right.j0 k false a0_0 a0_1 a0_2 a0_3) else ((nums_Fits.f a0_3 0 4611686018427387903).bind fun t214 => (crange_Right.j0 k (!t214) a0_0 a0_1 a0_2 a0_3))) = some r := h
  clear h
  have HC2 := AsZ.mk H
  clear H
  go_enter Try.func73, Try.ntmps73
  go_upto_region 1 with (first | ((with_reducible refine gDs (N := 1) rfl ?_); refine bEv ?hg (N := 1) ?hd (cs := #[.bool a0_0, .int .i64 a0_1, .int .i64 a0_2, .int .i64 a0_3]) (t := 91) ?hr ?_; (case hd => rfl); (case hg => rfl); (case hr => first | (go_simp; done) | (go_simp; rfl)); intro gb213 hg w3 hbox hb; have n0_ := AsZ.mk (tBl (by repeat (first | (with_reducible first | exact HB.out | apply aBl | apply pBd | apply dBl) | exact HB.out)) hb); have n1_ := AsZ.mk (hbox); have n2_ := AsZ.mk ((by rw [hg]; exact (zBl (by repeat (first | (with_reducible first | exact HB.out | apply aBl | apply pBd | apply dBl) | exact HB.out))) : w.heap.size ≤ gb213)); have n3_ := AsZ.mk ((by rw [hg]; exact (zBl (by repeat (first | (with_reducible first | exact HB.out | apply aBl | apply pBd | apply dBl) | exact HB.out))) : w.heap.size ≤ gb213)); clear HB; have HB := n0_; have BK213 := n1_; have GW213 := n2_; have GE213 := n3_; clear n0_ n1_ n2_ n3_; clear hb hbox hg))
  (try simp only [Act.put, List.setIfInBounds_toArray, List.set_cons_zero, List.set_cons_succ])
  go_cut [11] (fun v11 wc => ∃ (kq : Nat) (x11_1 : Bool), v11 = .bool x11_1 ∧ AsZ (crange_Right.j0 kq x11_1 a0_0 a0_1 a0_2 a0_3 = some r) ∧ AsZ (kq ≤ k) ∧ AsZ (wc.heap[gb213]? = some (.cells #[.bool a0_0, .int .i64 a0_1, .int .i64 a0_2, .int .i64 a0_3] 91 (0, 0))) ∧ AsZ (Below w.heap.size w wc))
  case first =>
    have H := HC2.out
    clear HC2
    by_cases c4 : a0_3 = (-1)
    · rw [if_pos c4] at H
      have c4b0 : (a0_3 == (-1)) = true := beq_iff_eq.mpr c4
      have c4b1 : (a0_3 != (-1)) = false := bne_eq_false_iff_eq.mpr c4
      clear c4
      (first | rw [c4b0] | (simp only [i64_w, i32_w]; rw [c4b0]) | skip)
      have H' := AsZ.mk H
      clear H
      have hcz5_0 : w3.cell? ⟨gb213, 0, none⟩ = some (.bool a0_0) := (bCe BK213.out 0).trans rfl
      have hcz5_1 : w3.cell? ⟨gb213, 1, none⟩ = some (.int .i64 a0_1) := (bCe BK213.out 1).trans rfl
      have hcz5_2 : w3.cell? ⟨gb213, 2, none⟩ = some (.int .i64 a0_2) := (bCe BK213.out 2).trans rfl
      have hcz5_3 : w3.cell? ⟨gb213, 3, none⟩ = some (.int .i64 a0_3) := (bCe BK213.out 3).trans rfl
      have hfz5_0 := bFz BK213.out 0
      have hfz5_1 := bFz BK213.out 1
      have hfz5_2 := bFz BK213.out 2
      have hfz5_3 := bFz BK213.out 3
      go_wp2
      go_meet
      case rel => exact ⟨_, (false), (by first | rfl | (simp; done) | (simp [*]; done)), H', ⟨by first | omega | exact Nat.le_refl _⟩, ⟨by (with_reducible repeat (first | refine bDn ?_ _ | refine bDr ?_ | refine bAl ?_ _)); exact BK213.out⟩, ⟨by repeat (first | (with_reducible first | exact HB.out | apply aBl | apply pBd | apply dBl | refine sBl ?_ GE213.out) | exact HB.out)⟩⟩
    · rw [if_neg c4] at H
      have c4b0 : (a0_3 == (-1)) = false := beq_eq_false_iff_ne.mpr c4
      have c4b1 : (a0_3 != (-1)) = true := bne_iff_ne.mpr c4
      (first | rw [c4b0] | (simp only [i64_w, i32_w]; rw [c4b0]) | skip)
      replace H := Option.bind_eq_some_iff.mp H
      obtain ⟨t214, A60, H⟩ := H
      replace H : (crange_Right.j0 k (!t214) a0_0 a0_1 a0_2 a0_3) = some r := H
      have A6 := AsZ.mk A60
      clear A60
      have H' := AsZ.mk H
      clear H
      have hcz7_0 : w3.cell? ⟨gb213, 0, none⟩ = some (.bool a0_0) := (bCe BK213.out 0).trans rfl
      have hcz7_1 : w3.cell? ⟨gb213, 1, none⟩ = some (.int .i64 a0_1) := (bCe BK213.out 1).trans rfl
      have hcz7_2 : w3.cell? ⟨gb213, 2, none⟩ = some (.int .i64 a0_2) := (bCe BK213.out 2).trans rfl
      have hcz7_3 : w3.cell? ⟨gb213, 3, none⟩ = some (.int .i64 a0_3) := (bCe BK213.out 3).trans rfl
      have hfz7_0 := bFz BK213.out 0
      have hfz7_1 := bFz BK213.out 1
      have hfz7_2 := bFz BK213.out 2
      have hfz7_3 := bFz BK213.out 3
      go_wp2_with (first | (go_at_call 49; (with_reducible refine (nums_Fits.calls a0_3 0 4611686018427387903 t214 _ A6.out).mono ?_); rintro e w' ⟨rfl, ⟨nd, rfl⟩⟩))
      go_meet
      case rel => exact ⟨_, (!t214), (by first | rfl | (simp; done) | (simp [*]; done)), H', ⟨by first | omega | exact Nat.le_refl _⟩, ⟨by (with_reducible repeat (first | refine bDn ?_ _ | refine bDr ?_ | refine bAl ?_ _)); exact BK213.out⟩, ⟨by repeat (first | (with_reducible first | exact HB.out | apply aBl | apply pBd | apply dBl | refine sBl ?_ GE213.out) | exact HB.out)⟩⟩
  case rest =>
    clear HC2
    try clear p2
    try clear c4
    try clear c4b0
    try clear c4b1
    try clear c7
    try clear hcz5_0
    try clear hcz5_1
    try clear hcz5_2
    try clear hcz5_3
    try clear hcz7_0
    try clear hcz7_1
    try clear hcz7_2
    try clear hcz7_3
    try clear hfz5_0
    try clear hfz5_1
    try clear hfz5_2
    try clear hfz5_3
    try clear hfz7_0
    try clear hfz7_1
    try clear hfz7_2
    try clear hfz7_3
    obtain ⟨kq, x11_1, rfl, HA, HJ1, BK213, HB⟩ := hcut
    cases kq with
    | zero => exact absurd HA.out (by simp [crange_Right.j0])
    | succ kj1 =>
      have H := HA.out
      clear HA
      simp only [crange_Right.j0] at H
      by_cases c8 : x11_1 = true
      · subst c8
        have H1 : (some false) = some r := by rw [if_pos rfl] at H; exact H
        clear H
        have H := H1
        clear H1
        obtain rfl := Option.some.inj H
        go_wp2
        go_ret
        exact ⟨by first | rfl | exact nEm _ | exact eEm _ | (simp [eWn, eWs] <;> rfl) | (simp [*, eWn, eWs] <;> rfl), by repeat (first | (with_reducible first | exact HB.out | apply aBl | apply pBd | apply dBl | refine sBl ?_ GE213.out) | exact HB.out)⟩
      · replace c8 := Bool.eq_false_iff.mpr c8
        subst c8
        have H1 : (if a0_0 = true then ((span_Right.f a0_1 a0_2).bind fun t215 => (if t215 = true then (if a0_3 = (-1) then (some true) else (some (decide (a0_2 ≤ a0_3)))) else (some false))) else (if (a0_1 == 0 && (a0_2 == 0)) = true then (some (a0_3 != (-1))) else (some false))) = some r := by rw [if_neg (show ¬ (false = true) by decide)] at H; exact H
        clear H
        have H := H1
        clear H1
        by_cases c9 : a0_0 = true
        · subst c9
          have H1 : ((span_Right.f a0_1 a0_2).bind fun t215 => (if t215 = true then (if a0_3 = (-1) then (some true) else (some (decide (a0_2 ≤ a0_3)))) else (some false))) = some r := by rw [if_pos rfl] at H; exact H
          clear H
          have H := H1
          clear H1
          replace H := Option.bind_eq_some_iff.mp H
          obtain ⟨t215, A100, H⟩ := H
          replace H : (if t215 = true then (if a0_3 = (-1) then (some true) else (some (decide (a0_2 ≤ a0_3)))) else (some false)) = some r := H
          have A10 := AsZ.mk A100
          clear A100
          by_cases c11 : t215 = true
          · subst c11
            have H1 : (if a0_3 = (-1) then (some true) else (some (decide (a0_2 ≤ a0_3)))) = some r := by rw [if_pos rfl] at H; exact H
            clear H
            have H := H1
            clear H1
            by_cases c12 : a0_3 = (-1)
            · rw [if_pos c12] at H
              have c12b0 : (a0_3 == (-1)) = true := beq_iff_eq.mpr c12
              have c12b1 : (a0_3 != (-1)) = false := bne_eq_false_iff_eq.mpr c12
              clear c12
              obtain rfl := Option.some.inj H
              have hcz13_0 : wc.cell? ⟨gb213, 0, none⟩ = some (.bool true) := (bCe BK213.out 0).trans rfl
              have hcz13_1 : wc.cell? ⟨gb213, 1, none⟩ = some (.int .i64 a0_1) := (bCe BK213.out 1).trans rfl
              have hcz13_2 : wc.cell? ⟨gb213, 2, none⟩ = some (.int .i64 a0_2) := (bCe BK213.out 2).trans rfl
              have hcz13_3 : wc.cell? ⟨gb213, 3, none⟩ = some (.int .i64 a0_3) := (bCe BK213.out 3).trans rfl
              have hfz13_0 := bFz BK213.out 0
              have hfz13_1 := bFz BK213.out 1
              have hfz13_2 := bFz BK213.out 2
              have hfz13_3 := bFz BK213.out 3
              go_wp2_with (first | ((with_reducible refine gCa (f := 55) rfl ?_); refine gLl (some 26) rfl rfl Try.func55 (by kernel_rfl) rfl #[.agg #[.int .i64 a0_1, .int .i64 a0_2]] rfl (by (try simp only [List.map_toArray, List.map_cons, List.map_nil]); first | done | rfl | (simp only [List.length_drop, List.length_take]; rfl)) ?_; (with_reducible refine (span_Right.calls a0_1 a0_2 true _ A10.out).mono ?_); rintro e w14 ⟨rfl, hb⟩; refine ⟨_, rfl, ?_⟩; have n0_ := AsZ.mk (bBl (g := gb213) (o := .cells #[.bool true, .int .i64 a0_1, .int .i64 a0_2, .int .i64 a0_3] 91 (0, 0)) (by (with_reducible repeat (first | refine bDn ?_ _ | refine bDr ?_ | refine bAl ?_ _)); exact BK213.out) hb); have n1_ := AsZ.mk (tBl (by repeat (first | (with_reducible first | exact HB.out | apply aBl | apply pBd | apply dBl | refine sBl ?_ GE213.out) | exact HB.out)) hb); clear BK213; clear HB; have BK213 := n0_; have HB := n1_; clear n0_ n1_; (try clear hb); (try clear hb2); (try clear hk); (try clear hi); have hcz15_0 : w14.cell? ⟨gb213, 0, none⟩ = some (.bool true) := (bCe BK213.out 0).trans rfl; have hcz15_1 : w14.cell? ⟨gb213, 1, none⟩ = some (.int .i64 a0_1) := (bCe BK213.out 1).trans rfl; have hcz15_2 : w14.cell? ⟨gb213, 2, none⟩ = some (.int .i64 a0_2) := (bCe BK213.out 2).trans rfl; have hcz15_3 : w14.cell? ⟨gb213, 3, none⟩ = some (.int .i64 a0_3) := (bCe BK213.out 3).trans rfl; have hfz15_0 := bFz BK213.out 0; have hfz15_1 := bFz BK213.out 1; have hfz15_2 := bFz BK213.out 2; have hfz15_3 := bFz BK213.out 3))
              go_ret
              exact ⟨by first | rfl | exact nEm _ | exact eEm _ | (simp [eWn, eWs] <;> rfl) | (simp [*, eWn, eWs] <;> rfl), by repeat (first | (with_reducible first | exact HB.out | apply aBl | apply pBd | apply dBl | refine sBl ?_ GE213.out) | exact HB.out)⟩
            · rw [if_neg c12] at H
              have c12b0 : (a0_3 == (-1)) = false := beq_eq_false_iff_ne.mpr c12
              have c12b1 : (a0_3 != (-1)) = true := bne_iff_ne.mpr c12
              obtain rfl := Option.some.inj H
              have hcz16_0 : wc.cell? ⟨gb213, 0, none⟩ = some (.bool true) := (bCe BK213.out 0).trans rfl
              have hcz16_1 : wc.cell? ⟨gb213, 1, none⟩ = some (.int .i64 a0_1) := (bCe BK213.out 1).trans rfl
              have hcz16_2 : wc.cell? ⟨gb213, 2, none⟩ = some (.int .i64 a0_2) := (bCe BK213.out 2).trans rfl
              have hcz16_3 : wc.cell? ⟨gb213, 3, none⟩ = some (.int .i64 a0_3) := (bCe BK213.out 3).trans rfl
              have hfz16_0 := bFz BK213.out 0
              have hfz16_1 := bFz BK213.out 1
              have hfz16_2 := bFz BK213.out 2
              have hfz16_3 := bFz BK213.out 3
              go_wp2_with (first | ((with_reducible refine gCa (f := 55) rfl ?_); refine gLl (some 26) rfl rfl Try.func55 (by kernel_rfl) rfl #[.agg #[.int .i64 a0_1, .int .i64 a0_2]] rfl (by (try simp only [List.map_toArray, List.map_cons, List.map_nil]); first | done | rfl | (simp only [List.length_drop, List.length_take]; rfl)) ?_; (with_reducible refine (span_Right.calls a0_1 a0_2 true _ A10.out).mono ?_); rintro e w17 ⟨rfl, hb⟩; refine ⟨_, rfl, ?_⟩; have n0_ := AsZ.mk (bBl (g := gb213) (o := .cells #[.bool true, .int .i64 a0_1, .int .i64 a0_2, .int .i64 a0_3] 91 (0, 0)) (by (with_reducible repeat (first | refine bDn ?_ _ | refine bDr ?_ | refine bAl ?_ _)); exact BK213.out) hb); have n1_ := AsZ.mk (tBl (by repeat (first | (with_reducible first | exact HB.out | apply aBl | apply pBd | apply dBl | refine sBl ?_ GE213.out) | exact HB.out)) hb); clear BK213; clear HB; have BK213 := n0_; have HB := n1_; clear n0_ n1_; (try clear hb); (try clear hb2); (try clear hk); (try clear hi); have hcz18_0 : w17.cell? ⟨gb213, 0, none⟩ = some (.bool true) := (bCe BK213.out 0).trans rfl; have hcz18_1 : w17.cell? ⟨gb213, 1, none⟩ = some (.int .i64 a0_1) := (bCe BK213.out 1).trans rfl; have hcz18_2 : w17.cell? ⟨gb213, 2, none⟩ = some (.int .i64 a0_2) := (bCe BK213.out 2).trans rfl; have hcz18_3 : w17.cell? ⟨gb213, 3, none⟩ = some (.int .i64 a0_3) := (bCe BK213.out 3).trans rfl; have hfz18_0 := bFz BK213.out 0; have hfz18_1 := bFz BK213.out 1; have hfz18_2 := bFz BK213.out 2; have hfz18_3 := bFz BK213.out 3))
              go_ret
              exact ⟨by first | rfl | exact nEm _ | exact eEm _ | (simp [eWn, eWs] <;> rfl) | (simp [*, eWn, eWs] <;> rfl), by repeat (first | (with_reducible first | exact HB.out | apply aBl | apply pBd | apply dBl | refine sBl ?_ GE213.out) | exact HB.out)⟩
          · replace c11 := Bool.eq_false_iff.mpr c11
            subst c11
            have H1 : (some false) = some r := by rw [if_neg (show ¬ (false = true) by decide)] at H; exact H
            clear H
            have H := H1
            clear H1
            obtain rfl := Option.some.inj H
            have hcz19_0 : wc.cell? ⟨gb213, 0, none⟩ = some (.bool true) := (bCe BK213.out 0).trans rfl
            have hcz19_1 : wc.cell? ⟨gb213, 1, none⟩ = some (.int .i64 a0_1) := (bCe BK213.out 1).trans rfl
            have hcz19_2 : wc.cell? ⟨gb213, 2, none⟩ = some (.int .i64 a0_2) := (bCe BK213.out 2).trans rfl
            have hcz19_3 : wc.cell? ⟨gb213, 3, none⟩ = some (.int .i64 a0_3) := (bCe BK213.out 3).trans rfl
            have hfz19_0 := bFz BK213.out 0
            have hfz19_1 := bFz BK213.out 1
            have hfz19_2 := bFz BK213.out 2
            have hfz19_3 := bFz BK213.out 3
            go_wp2_with (first | ((with_reducible refine gCa (f := 55) rfl ?_); refine gLl (some 26) rfl rfl Try.func55 (by kernel_rfl) rfl #[.agg #[.int .i64 a0_1, .int .i64 a0_2]] rfl (by (try simp only [List.map_toArray, List.map_cons, List.map_nil]); first | done | rfl | (simp only [List.length_drop, List.length_take]; rfl)) ?_; (with_reducible refine (span_Right.calls a0_1 a0_2 false _ A10.out).mono ?_); rintro e w20 ⟨rfl, hb⟩; refine ⟨_, rfl, ?_⟩; have n0_ := AsZ.mk (bBl (g := gb213) (o := .cells #[.bool true, .int .i64 a0_1, .int .i64 a0_2, .int .i64 a0_3] 91 (0, 0)) (by (with_reducible repeat (first | refine bDn ?_ _ | refine bDr ?_ | refine bAl ?_ _)); exact BK213.out) hb); have n1_ := AsZ.mk (tBl (by repeat (first | (with_reducible first | exact HB.out | apply aBl | apply pBd | apply dBl | refine sBl ?_ GE213.out) | exact HB.out)) hb); clear BK213; clear HB; have BK213 := n0_; have HB := n1_; clear n0_ n1_; (try clear hb); (try clear hb2); (try clear hk); (try clear hi)))
            go_ret
            exact ⟨by first | rfl | exact nEm _ | exact eEm _ | (simp [eWn, eWs] <;> rfl) | (simp [*, eWn, eWs] <;> rfl), by repeat (first | (with_reducible first | exact HB.out | apply aBl | apply pBd | apply dBl | refine sBl ?_ GE213.out) | exact HB.out)⟩
        · replace c9 := Bool.eq_false_iff.mpr c9
          subst c9
          have H1 : (if (a0_1 == 0 && (a0_2 == 0)) = true then (some (a0_3 != (-1))) else (some false)) = some r := by rw [if_neg (show ¬ (false = true) by decide)] at H; exact H
          clear H
          have H := H1
          clear H1
          by_cases c21 : (a0_1 == 0 && (a0_2 == 0)) = true
          · rw [if_pos c21] at H
            have c21b0 : (a0_1 == 0 && (a0_2 == 0)) = true := c21
            (try (have c21b1 : decide (a0_1 = 0 && (a0_2 == 0)) = true := by simpa using c21))
            (try (have c21b2 : (a0_1 == 0 && (a0_2 == 0)) = true := by simpa using c21))
            clear c21
            obtain rfl := Option.some.inj H
            have hcz22_0 : wc.cell? ⟨gb213, 0, none⟩ = some (.bool false) := (bCe BK213.out 0).trans rfl
            have hcz22_1 : wc.cell? ⟨gb213, 1, none⟩ = some (.int .i64 a0_1) := (bCe BK213.out 1).trans rfl
            have hcz22_2 : wc.cell? ⟨gb213, 2, none⟩ = some (.int .i64 a0_2) := (bCe BK213.out 2).trans rfl
            have hcz22_3 : wc.cell? ⟨gb213, 3, none⟩ = some (.int .i64 a0_3) := (bCe BK213.out 3).trans rfl
            have hfz22_0 := bFz BK213.out 0
            have hfz22_1 := bFz BK213.out 1
            have hfz22_2 := bFz BK213.out 2
            have hfz22_3 := bFz BK213.out 3
            go_wp2
            go_ret
            exact ⟨by first | rfl | exact nEm _ | exact eEm _ | (simp [eWn, eWs] <;> rfl) | (simp [*, eWn, eWs] <;> rfl), by repeat (first | (with_reducible first | exact HB.out | apply aBl | apply pBd | apply dBl | refine sBl ?_ GE213.out) | exact HB.out)⟩
          · rw [if_neg c21] at H
            have c21b0 : (a0_1 == 0 && (a0_2 == 0)) = false := by simpa using c21
            (try (have c21b1 : decide (a0_1 = 0 && (a0_2 == 0)) = false := by simpa using c21))
            (try (have c21b2 : (a0_1 == 0 && (a0_2 == 0)) = false := by simpa using c21))
            (try (have c21b3 : ¬ (a0_1 = 0 && (a0_2 == 0)) := by simpa using c21))
            clear c21
            obtain rfl := Option.some.inj H
            have hcz23_0 : wc.cell? ⟨gb213, 0, none⟩ = some (.bool false) := (bCe BK213.out 0).trans rfl
            have hcz23_1 : wc.cell? ⟨gb213, 1, none⟩ = some (.int .i64 a0_1) := (bCe BK213.out 1).trans rfl
            have hcz23_2 : wc.cell? ⟨gb213, 2, none⟩ = some (.int .i64 a0_2) := (bCe BK213.out 2).trans rfl
            have hcz23_3 : wc.cell? ⟨gb213, 3, none⟩ = some (.int .i64 a0_3) := (bCe BK213.out 3).trans rfl
            have hfz23_0 := bFz BK213.out 0
            have hfz23_1 := bFz BK213.out 1
            have hfz23_2 := bFz BK213.out 2
            have hfz23_3 := bFz BK213.out 3
            go_wp2
            go_ret
            exact ⟨by first | rfl | exact nEm _ | exact eEm _ | (simp [eWn, eWs] <;> rfl) | (simp [*, eWn, eWs] <;> rfl), by repeat (first | (with_reducible first | exact HB.out | apply aBl | apply pBd | apply dBl | refine sBl ?_ GE213.out) | exact HB.out)⟩
end Go.Proofs.Ytfcengffgkmacaa.PAll
