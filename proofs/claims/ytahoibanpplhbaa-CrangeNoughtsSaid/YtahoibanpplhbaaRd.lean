/- What the form reads at a type is of a kind: lemmas for the rows of laws whose parameters are structs, or slices of structs and strings. -/
import Derived.Test.YtahoibanpplhbaaWWords
import Derived.WalkKit
import Derived.ProofKit
import Derived.OpenShut
import Derived.ShutString
import Derived.ChangeOld
import Derived.Below
import Derived.SizedLaws
import Derived.Lib.SmallJoins
namespace Go.Proofs.Ytahoibanpplhbaa.Rd
open Go.RowKit Go.ChangeShapes Go.WideShapes Go.ChangeAt Go.Proofs.YtahoibanpplhbaaW.PrintWords
set_option linter.unusedVariables false
set_option linter.unusedSimpArgs false

def Opens {α : Type} (P : Program) (t : TypeId) (d : Kd α) (ok : α → Prop) : Prop :=
  ∀ (H : Type) (enc : TypeId × Value → H) (W : World) (spare : Nat → Bool) (held : Bool) (fuel : Nat) (cs : List Value) (x : DataW H × List MemPlace),
    DataW.trod enc P W 0 spare held fuel t cs = some x → ∃ a, d.K W a cs ∧ ok a
def OpensF {α : Type} (P : Program) (o : Nat) (l : List Field) (d : Kd α) (ok : α → Prop) : Prop :=
  ∀ (H : Type) (enc : TypeId × Value → H) (W : World) (spare : Nat → Bool) (held : Bool) (fuel : Nat) (cs : List Value),
    (∀ f ∈ l, ∃ x, DataW.trod enc P W 0 spare held fuel f.type ((cs.drop f.offset).take (P.cellsOf f.type)) = some x) → ∃ a, d.K W a ((cs.drop o).take d.sz) ∧ ok a

section
variable {P : Program} {t e : TypeId} {α β : Type}
theorem opens_int {k : IntKind} (hu : P.underlying t = some (.int k)) : Opens P t (Kd.int k) (fun n => (Lit.int k n).wf = true) := by
  intro H enc W spare held fuel cs x h
  obtain ⟨n, rfl, _, hw⟩ := DataW.trod_int hu h
  exact ⟨n, rfl, hw⟩
theorem opens_bool (hu : P.underlying t = some .bool) : Opens P t Kd.bool (fun _ => True) := by
  intro H enc W spare held fuel cs x h
  obtain ⟨n, rfl, _⟩ := DataW.trod_bool hu h
  exact ⟨n, rfl, trivial⟩
theorem opens_string (hu : P.underlying t = some .string) : Opens P t Kd.string (fun s => s.size ≤ maxLen) := by
  intro H enc W spare held fuel cs x h
  obtain ⟨n, rfl, _, hw⟩ := DataW.trod_string hu h
  exact ⟨n, rfl, hw⟩
theorem opensF_one {f : Field} {o : Nat} {d : Kd α} {ok : α → Prop} (h : Opens P f.type d ok) (ho : f.offset = o) (hs : P.cellsOf f.type = d.sz) : OpensF P o [f] d ok := by
  intro H enc W spare held fuel cs hf
  obtain ⟨x, hx⟩ := hf f (by simp)
  rw [ho, hs] at hx
  exact h H enc W spare held fuel _ x hx
theorem opensF_cons {f : Field} {l : List Field} {o o' : Nat} {a : Kd α} {b : Kd β} {oka : α → Prop} {okb : β → Prop} (h : Opens P f.type a oka) (ho : f.offset = o) (hs : P.cellsOf f.type = a.sz)
    (ho' : o' = o + a.sz) (hl : OpensF P o' l b okb) : OpensF P o (f :: l) (Kd.pair a b) (fun x => oka x.1 ∧ okb x.2) := by
  intro H enc W spare held fuel cs hf
  subst ho'
  obtain ⟨x, hx⟩ := hf f (by simp)
  rw [ho, hs] at hx
  obtain ⟨p, hp, hop⟩ := h H enc W spare held fuel _ x hx
  obtain ⟨q, hq, hoq⟩ := hl H enc W spare held fuel cs (fun g hg => hf g (by simp [hg]))
  refine ⟨(p, q), ⟨_, _, ?_, hp, hq⟩, hop, hoq⟩
  show (cs.drop o).take (a.sz + b.sz) = _
  rw [List.take_add, List.drop_drop]
theorem opens_struct {fs : Array Field} {d : Kd α} {ok : α → Prop} (hu : P.underlying t = some (.struct fs)) (hF : OpensF P 0 fs.toList d ok) (hc : P.cellsOf t = d.sz) (f : β → α) (g : α → β) (hfg : ∀ a, f (g a) = a) :
    Opens P t (Kd.iso d f) (fun x => ok (f x)) := by
  intro H enc W spare held fuel cs x h
  obtain ⟨xs, n, rfl, rfl, hl, hlen, hf⟩ := DataW.trod_struct hu h
  obtain ⟨a, ha, hok⟩ := hF H enc W spare held n cs (fun q hq => by
    obtain ⟨i, hi, rfl⟩ := List.mem_iff_getElem.1 hq
    have hi' : i < xs.length := by rw [hlen]; simpa using hi
    refine ⟨xs[i], ?_⟩
    have := hf i fs.toList[i] (by simp)
    rw [this, List.getElem?_eq_getElem hi'])
  refine ⟨g a, ?_, by show ok (f (g a)); rw [hfg]; exact hok⟩
  show d.K W (f (g a)) cs
  rw [hfg]
  simpa [← hc, ← hl] using ha
theorem listed (Q : Nat → α → Prop) : ∀ n, (∀ i, i < n → ∃ a, Q i a) → ∃ l : List α, l.length = n ∧ ∀ i a, l[i]? = some a → Q i a
  | 0, _ => ⟨[], rfl, fun i a h => by simp at h⟩
  | n + 1, h => by
    obtain ⟨l, hl, hq⟩ := listed Q n (fun i hi => h i (by omega))
    obtain ⟨a, ha⟩ := h n (by omega)
    refine ⟨l ++ [a], by simp [hl], fun i b hb => ?_⟩
    by_cases hi : i < l.length
    · rw [List.getElem?_append_left hi] at hb
      exact hq i b hb
    · have : i < (l ++ [a]).length := (List.getElem?_eq_some_iff.1 hb).1
      have hi2 : i = l.length := by simp at this; omega
      subst hi2
      simp at hb
      subst hb
      rw [hl]; exact ha
/-- A slice, opened: its elements are of the kind. -/
theorem open_elems {H : Type} {enc : TypeId × Value → H} {W : World} {spare : Nat → Bool} {held : Bool} {fuel : Nat} {cs : List Value} {x : DataW H × List MemPlace} {d : Kd α} {ok : α → Prop}
    (hu : P.underlying t = some (.slice e)) (he : Opens P e d ok) (hc : P.cellsOf e = d.sz) (h : DataW.trod enc P W 0 spare held fuel t cs = some x) :
    ∃ A c, ∃ l : List α, cs = [.slice A l.length c] ∧ l.length ≤ c ∧ d.C W A l.length l ∧ (∀ y ∈ l, ok y) ∧
      (l = [] ∨ ∃ elems rest, x.1 = .slice elems rest ∧ elems.length = l.length) := by
  rcases DataW.trod_slice hu h with ⟨rfl, rfl⟩ | ⟨a, len, cap, elems, rest, n, rfl, rfl, rfl, hb, hl, hm, hlen, hel, _⟩
  · exact ⟨none, 0, [], rfl, Nat.le_refl _, ⟨rfl, by simp, fun h => by simp at h⟩, by simp, .inl rfl⟩
  · obtain ⟨l, hll, hq⟩ := listed (fun i y => ok y ∧ ∃ c, W.cells? 0 (a.add (i * d.sz)) d.sz = some c ∧ d.K W y c) len (fun i hi => by
      have h1 := hel i hi
      have hi' : i < elems.length := by omega
      rw [List.getElem?_eq_getElem hi', hc] at h1
      obtain ⟨c, hc1, hc2⟩ := Option.bind_eq_some_iff.1 h1
      obtain ⟨y, hy, hoy⟩ := he H enc W spare held n c _ hc2
      exact ⟨y, hoy, c, hc1, hy⟩)
    subst hll
    refine ⟨some a, cap, l, rfl, hl, ⟨rfl, by unfold maxLen at hm; omega, fun _ => ⟨a, rfl, fun j p hj => ?_⟩⟩, fun y hy => ?_, .inr ⟨_, _, rfl, by simpa using hlen⟩⟩
    · obtain ⟨_, c, hc1, hk⟩ := hq j p hj
      obtain ⟨_, hcl, hcell⟩ := World.cells?_some hc1
      refine ⟨c, hcl, hk, fun i u hu => ?_⟩
      rw [← Addr.add_add]
      have hi : i < d.sz := by rw [← hcl]; exact (List.getElem?_eq_some_iff.1 hu).1
      rw [hcell i hi]
      exact hu
    · obtain ⟨i, hi⟩ := List.mem_iff_getElem?.1 hy
      exact (hq i y hi).1
theorem opens_slice {d : Kd α} {ok : α → Prop} (hu : P.underlying t = some (.slice e)) (he : Opens P e d ok) (hc : P.cellsOf e = d.sz) : Opens P t (Kd.slice e d) (fun l => ∀ y ∈ l, ok y) := by
  intro H enc W spare held fuel cs x h
  obtain ⟨A, c, l, rfl, hl, hC, hok, _⟩ := open_elems hu he hc h
  exact ⟨l, ⟨A, c, rfl, hl, hC⟩, hok⟩
/-- A parameter that is a slice. -/
theorem open_row {H : Type} {enc : TypeId × Value → H} {W : World} {spare : Nat → Bool} {held : Bool} {v : Value} {dd : DataW H} {ps : List MemPlace} {d : Kd α} {ok : α → Prop} {r : Reach} {b0 : Nat}
    (hu : P.underlying t = some (.slice e)) (he : Opens P e d ok) (hc : P.cellsOf e = d.sz) (hv : Value.okWide P W r b0 t v) (h : DataW.Trod enc P W 0 spare held t v dd ps)
    {ts : List TypeId} {ds : List (DataW H)} {j : Nat} (hsz : (DataW.weightsEach P ts ds).all (· ≤ reachBytes) = true) (ht : ts[j]? = some t) (hd : ds[j]? = some dd) {B : Nat} (hB : P.bytesOf e = B) :
    ∃ A c, ∃ l : List α, v = .slice A l.length c ∧ l.length ≤ c ∧ d.C W A l.length l ∧ (∀ y ∈ l, ok y) ∧ l.length * B ≤ 140737488351232 := by
  obtain ⟨a, len, cap, rfl⟩ := okWide_slice hu hv
  obtain ⟨fuel, hf⟩ := h
  obtain ⟨A, c, l, hcs, hl, hC, hok, hx⟩ := open_elems hu he hc hf
  simp [Value.cells] at hcs
  obtain ⟨rfl, rfl, rfl⟩ := hcs
  refine ⟨_, _, l, rfl, hl, hC, hok, ?_⟩
  rcases hx with rfl | ⟨elems, rest, hx, hlen⟩
  · simp
  · simp only at hx
    subst hx
    have z := sized_slice hsz ht hd hu
    rw [hB] at z
    rw [← hlen]
    exact Nat.le_trans (Nat.mul_le_mul_right _ (Nat.le_add_right _ _)) (by simpa [reachBytes] using z)
/-- A parameter that is a struct. -/
theorem open_agg {H : Type} {enc : TypeId × Value → H} {W : World} {spare : Nat → Bool} {held : Bool} {v : Value} {dd : DataW H} {ps : List MemPlace} {d : Kd α} {ok : α → Prop} {r : Reach} {b0 : Nat} {fs : Array Field}
    (hu : P.underlying t = some (.struct fs)) (he : Opens P t d ok) (hv : Value.okWide P W r b0 t v) (h : DataW.Trod enc P W 0 spare held t v dd ps) :
    ∃ (l : List Value) (x : α), v = .agg l.toArray ∧ d.K W x l ∧ ok x := by
  unfold Value.okWide at hv
  rw [hu] at hv
  obtain ⟨cs, rfl, _⟩ := hv
  obtain ⟨fuel, hf⟩ := h
  obtain ⟨x, hk, hok⟩ := he H enc W spare held fuel _ _ hf
  exact ⟨cs.toList, x, rfl, by simpa [Value.cells] using hk, hok⟩
end
end Go.Proofs.Ytahoibanpplhbaa.Rd
