/- The law AssembleWhole: for every input the call returns true, and each argument reads behind the call as it read before. No condition. (The row, and the plain law ahead of it.) -/
import Derived.Test.YtiecjkkjcdjndaaKAssembleWhole1
import Derived.Lib.SlBytesConst
import Derived.Test.YtiecjkkjcdjndaaRows
import Derived.WalkKit
import Derived.ProofKit
import Derived.OpenShut
import Derived.ShutString
import Derived.ChangeOld
import Derived.Below
import Derived.SizedLaws
namespace Go.Proofs.Ytiecjkkjcdjndaa.Asm
open Go Go.RowKit Go.Shelf Go.Proofs Go.Proofs.Ytiecjkkjcdjndaa.Xw Go.Proofs.Ytiecjkkjcdjndaa.PAll Go.Proofs.YtiecjkkjcdjndaaW.PrintWords Go.Proofs.YtiecjkkjcdjndaaW.PrintLast Go.Proofs.YtiecjkkjcdjndaaW.PrintMore Go.Proofs.Ytiecjkkjcdjndaa.Mp Go.Proofs.Ytiecjkkjcdjndaa.Pure
attribute [local go_sem] Oper.semAt_some
/-- the slices of an object but those that are left out, up to place m -/
def ofM (l : List Int) (s : Int) (o : List Int) (m : Int) : Int → Option (List Int) := fun i =>
  if 0 ≤ i ∧ i < m ∧ 0 < (bnd i l.length s).2 ∧ i ∉ o then some ((l.take (bnd i l.length s).2.toNat).drop (bnd i l.length s).1.toNat) else none
theorem ofM_zero (l : List Int) (s : Int) (o : List Int) : ofM l s o 0 = fun _ => none := by
  funext i
  unfold ofM
  rw [if_neg (by omega)]
theorem ofM_put {l : List Int} {s : Int} {o : List Int} {m : Int} (h0 : 0 ≤ m) (h1 : 0 < (bnd m l.length s).2) (h2 : m ∉ o) :
    putF (ofM l s o m) m ((l.take (bnd m l.length s).2.toNat).drop (bnd m l.length s).1.toNat) = ofM l s o (m + 1) := by
  funext i
  unfold putF ofM
  by_cases e : i = m
  · subst e
    rw [if_pos rfl, if_pos ⟨h0, by omega, h1, h2⟩]
  · rw [if_neg e]
    by_cases h : 0 ≤ i ∧ i < m ∧ 0 < (bnd i l.length s).2 ∧ i ∉ o
    · rw [if_pos h, if_pos ⟨h.1, by omega, h.2.2⟩]
    · rw [if_neg h, if_neg (fun h' => h ⟨h'.1, by omega, h'.2.2⟩)]
theorem ofM_skip {l : List Int} {s : Int} {o : List Int} {m : Int} (h : ¬ (0 < (bnd m l.length s).2 ∧ m ∉ o)) : ofM l s o m = ofM l s o (m + 1) := by
  funext i
  unfold ofM
  by_cases e : i = m
  · subst e
    rw [if_neg (by omega), if_neg (fun h' => h h'.2.2)]
  · by_cases h : 0 ≤ i ∧ i < m ∧ 0 < (bnd i l.length s).2 ∧ i ∉ o
    · rw [if_pos h, if_pos ⟨h.1, by omega, h.2.2⟩]
    · rw [if_neg h, if_neg (fun h' => h ⟨h'.1, by omega, h'.2.2⟩)]
theorem below_grown0 {W w1 : World} (hg : W.grownBy w1 (Value.slice none 0 0).ownBlock) : Below W.heap.size W w1 := ⟨hg.os, hg.tape, hg.output, hg.size, fun k hk => hg.block k hk (by simp [Value.ownBlock])⟩
set_option maxRecDepth 100000 in
set_option maxHeartbeats 4000000 in
theorem of_calls (A : Option Addr) (c : Nat) (l : List Int) (s : Int) (A2 : Option Addr) (c2 : Nat) (o : List Int) (w : World) (hC : (Kd.int .u8).C w A l.length l) (hc : l.length ≤ c) (hC2 : (Kd.int .i64).C w A2 o.length o) (hc2 : o.length ≤ c2) (hlen : l.length ≤ 100000) (hlen2 : o.length ≤ 100000) :
    Calls Try.prog 8 #[.slice A l.length c, .int .i64 s, .slice A2 o.length c2] w fun e w' => ∃ b, e = .returned (.map (some b)) ∧ MB w' b l.length (ofM l s o l.length) ∧ Below w.heap.size w w' := by
  have CB := fun i X => spenceref04_Bounds.calls 1 i l.length s (bnd i l.length s).1 (bnd i l.length s).2 X (ref_bounds_eq 0 i l.length s)
  have CI := fun i X hX => spenceref01_In.calls (in_ev o i hlen2).choose A2 c2 o i (decide (i ∈ o)) X hX hc2 ((in_ev o i hlen2).choose_spec _ (Nat.le_refl _))
  obtain ⟨i5, hi5, hi5z⟩ := Option.map_eq_some_iff.1 info5
  simp only [Prod.mk.injEq] at hi5z
  have hmk := @run_makeMap Try.prog
  replace CB := Aside0.mk CB
  replace CI := Aside0.mk CI
  replace hC := Aside0.mk hC
  replace hC2 := Aside0.mk hC2
  have hM0 := Aside0.mk (MapB.made Try.prog 3 w)
  have hBm := Aside0.mk (below_alloc (Below.refl w.heap.size w) (.map #[] 0))
  go_enter Try.func8, Try.ntmps8
  go_wp2
  go_loopg [8] l.length (fun gg v8 wr => ∃ m : Nat, v8 = .int .i64 m ∧ m ≤ l.length ∧ l.length - m ≤ gg ∧ Aside0 (MB wr w.heap.size m (ofM l s o m)) ∧ Aside0 (Below w.heap.size w wr))
  case atStart => exact ⟨0, rfl, by omega, by omega, ⟨by rw [show ((0 : Nat) : Int) = 0 from rfl, ofM_zero]; exact hM0.out⟩, hBm⟩
  case round =>
    obtain ⟨m, rfl, hml, hgg, hM, hB⟩ := hrel
    by_cases hlt : m < l.length
    · have hltz : (m : Int) < (l.length : Int) := by omega
      have hwf : (Lit.int .i64 (m : Int)).wf = true := WalkArith.wf_i64 (by omega)
      have CBm := Aside0.mk (CB.out m)
      have hpos := bnd_pos m l.length s
      have hput := fun h1 h2 => ofM_put (l := l) (s := s) (o := o) (m := m) (by omega) h1 h2
      have hskip := fun h => ofM_skip (l := l) (s := s) (o := o) (m := m) h
      generalize (bnd m l.length s).1 = x at CBm hpos hput
      generalize (bnd m l.length s).2 = y at CBm hpos hput hskip
      replace hput := Aside0.mk hput
      replace hskip := Aside0.mk hskip
      have CIm := Aside0.mk (CI.out m)
      by_cases h1 : 0 < y
      case neg =>
        have d1 : decide (y > 0) = false := decide_eq_false h1
        have d1' : decide (0 < y) = false := decide_eq_false h1
        replace hpos := Aside0.mk hpos
        go_wp2_with (go_at_call 9; refine (CBm.out _).mono ?_; rintro e w1 ⟨rfl, hb1⟩)
        go_roundg (l.length - (m + 1))
        case measure => omega
        case rel => exact ⟨m + 1, by go_num, by omega, by omega, ⟨by
          push_cast
          rw [← hskip.out (fun h => absurd h.1 (by omega))]
          exact (hM.out.mono (Nat.le_succ m)).below (below_alloc hb1 _)⟩, ⟨below_step hB.out (below_alloc hb1 _)⟩⟩
      have d1 : decide (y > 0) = true := decide_eq_true h1
      have d1' : decide (0 < y) = true := decide_eq_true h1
      by_cases h2 : (m : Int) ∈ o
      case pos =>
        rw [decide_eq_true h2] at CIm
        replace hpos := Aside0.mk hpos
        replace h1 := Aside0.mk h1
        go_wp2_with (first | (go_at_call 9; refine (CBm.out _).mono ?_; rintro e w1 ⟨rfl, hb1⟩) | (go_at_call 14; refine (CIm.out _ (Kd.C_below hC2.out (below_step hB.out (below_alloc hb1 _)))).mono ?_; rintro e w2 ⟨rfl, hb2⟩))
        go_roundg (l.length - (m + 1))
        case measure => omega
        case rel => exact ⟨m + 1, by go_num, by omega, by omega, ⟨by
          push_cast
          rw [← hskip.out (fun h => h.2 h2)]
          exact (hM.out.mono (Nat.le_succ m)).below (below_step (below_alloc hb1 _) hb2.below)⟩, ⟨below_step hB.out (below_step (below_alloc hb1 _) hb2.below)⟩⟩
      case neg =>
        rw [decide_eq_false h2] at CIm
        have hy := (hpos.2.2.1 (hpos.1.1 h1))
        obtain ⟨A3, hsl, hsr, hcap2⟩ := print_mid_int (k := .u8) 22 5 Try.underlying22 hi5 hi5z.2.1 A c l x y hpos.2.1 (by omega) (by omega) hc
        have hput2 := hput.out h1 h2
        replace hpos := Aside0.mk hpos
        replace h1 := Aside0.mk h1
        replace h2 := Aside0.mk h2
        have hyl : ((l.take y.toNat).drop x.toNat).length ≤ 100000 := by rw [List.length_drop, List.length_take]; omega
        generalize (l.take y.toNat).drop x.toNat = ys at hsl hsr hcap2 hput2 hyl
        replace hsr := Aside0.mk hsr
        replace hput2 := Aside0.mk hput2
        replace hy := Aside0.mk hy
        go_wp2_with (first | (go_at_call 9; refine (CBm.out _).mono ?_; rintro e w1 ⟨rfl, hb1⟩) | (go_at_call 14; refine (CIm.out _ (Kd.C_below hC2.out (below_step hB.out (below_alloc hb1 _)))).mono ?_; rintro e w2 ⟨rfl, hb2⟩; have hBx := below_step (below_alloc hb1 (.cells #[.int .i64 x, .int .i64 y] 31 (0, 0))) hb2.below; have hc0 : w2.cell? ⟨w1.heap.size, 0, none⟩ = some (.int .i64 x) := (blk_cell (blk_below (blk_new w1 (.cells #[.int .i64 x, .int .i64 y] 31 (0, 0))) hb2.below) 0).trans rfl; have hc1 : w2.cell? ⟨w1.heap.size, 1, none⟩ = some (.int .i64 y) := (blk_cell (blk_below (blk_new w1 (.cells #[.int .i64 x, .int .i64 y] 31 (0, 0))) hb2.below) 1).trans rfl) | (at_builtin; refine print_append_row (w0 := w) w.heap.size rfl _ _ 22 5 .u8 1 rfl Try.underlying22 info5 (by decide) (.slice none 0 0) [] ys A3 ys.length (c - x.toNat) rfl rfl (own_nil _ _ _ _) (hsr.out _ (Kd.reads_of_C (d := (0 : Int)) (Kd.C_below hC.out (below_step hB.out hBx)))) (below_step hB.out hBx) (below_step hB.out hBx).size (by simp; omega) ?_; intro v1 w3 hown hB3 hgr hloc; replace hown : w3.ownsRow w.heap.size 5 1 v1 ys.length (nums .u8 ys) := hown) | (at_mapUpdate; refine wpList_put rfl _ _ _ 27 rfl Try.underlying3 Try.underlying27 (by simp only [maxLen]; omega) rfl ((hM.out.below hBx).below (below_grown0 hgr)) rfl hwf rfl (own_row hown) ?_; intro w4 hM4 hT4))
        go_roundg (l.length - (m + 1))
        case measure => omega
        case rel => exact ⟨m + 1, by go_num, by omega, by omega, ⟨by
          push_cast
          rw [← hput2.out]
          exact hM4⟩, ⟨pw_below_grown hB3 (some w.heap.size) hB3.size hT4.grown (fun k hk => by cases hk; exact Nat.le_refl _)⟩⟩
    · have : m = l.length := by omega
      subst this
      have hltz : ¬ (l.length : Int) < (l.length : Int) := by omega
      go_wp2
      go_ret
      exact ⟨_, rfl, hM.out, hB.out⟩
end Go.Proofs.Ytiecjkkjcdjndaa.Asm
namespace Go.Proofs.Ytiecjkkjcdjndaa.Asm
open Go Go.RowKit Go.Proofs Go.Proofs.Ytiecjkkjcdjndaa.Xw Go.Proofs.Ytiecjkkjcdjndaa.PAll Go.Proofs.YtiecjkkjcdjndaaW.PrintWords Go.Proofs.YtiecjkkjcdjndaaW.PrintLast Go.Proofs.YtiecjkkjcdjndaaW.PrintMore Go.Proofs.Ytiecjkkjcdjndaa.Mp Go.Proofs.Ytiecjkkjcdjndaa.Pure
/-- the bytes a to c of l -/
def cutL (l : List Int) (a c : Int) : List Int := (l.take c.toNat).drop a.toNat
theorem cutL_app (l : List Int) {a p q : Int} (h0 : 0 ≤ a) (h1 : a ≤ p) (h2 : p ≤ q) (h3 : q ≤ l.length) : cutL l a p ++ cutL l p q = cutL l a q := by
  unfold cutL
  refine List.ext_getElem (by simp only [List.length_append, List.length_drop, List.length_take]; omega) fun j g1 g2 => ?_
  simp only [List.length_drop, List.length_take] at g2
  rw [List.getElem_append]
  split
  · rename_i h
    simp only [List.length_drop, List.length_take] at h
    simp only [List.getElem_drop, List.getElem_take]
  · rename_i h
    simp only [List.length_drop, List.length_take] at h
    simp only [List.getElem_drop, List.getElem_take, List.length_drop, List.length_take]
    congr 1
    omega
theorem cutL_cut (l : List Int) {x y p q : Int} (h0 : 0 ≤ x) (h1 : x ≤ p) (h2 : p ≤ q) (h3 : q ≤ y) : ((cutL l x y).take (q - x).toNat).drop (p - x).toNat = cutL l p q := by
  unfold cutL
  refine List.ext_getElem (by simp only [List.length_drop, List.length_take]; omega) fun j g1 g2 => ?_
  simp only [List.getElem_drop, List.getElem_take]
  congr 1
  omega
theorem ofM_at {l : List Int} {s : Int} {o : List Int} {i : Int} (hs : CR l.length s ∧ 0 ≤ i ∧ i * s < l.length) : ofM l s o l.length i = if i ∈ o then none else some (cutL l (bnd i l.length s).1 (bnd i l.length s).2) := by
  have hp := (bnd_pos i l.length s).1.2 hs
  have hm := mul_bd hs.1 hs.2.1 hs.2.2
  unfold ofM cutL
  by_cases h : i ∈ o
  · rw [if_pos h, if_neg (fun h' => h'.2.2.2 h)]
  · rw [if_neg h, if_pos ⟨hs.2.1, by omega, hp, h⟩]
theorem has_of {l : List Int} {s : Int} {o : List Int} {i : Int} (hs : CR l.length s ∧ 0 ≤ i ∧ i * s < l.length) : hasP (ofM l s o l.length) l.length s i = decide (i ∉ o) := by
  have hp := (bnd_pos i l.length s).2.2.1 hs
  have h0 := (bnd_pos i l.length s).2.1
  unfold hasP slotLen
  rw [ofM_at hs, decide_eq_true hs, Bool.true_and]
  by_cases h : i ∈ o
  · rw [if_pos h]
    simp [h]
  · rw [if_neg h, decide_eq_true h, if_pos ⟨by omega, by omega, by omega⟩]
    simp only [Option.isSome_some, Option.getD_some, Bool.true_and, decide_eq_true_eq]
    unfold cutL
    rw [List.length_drop, List.length_take]
    omega
theorem piece_of {l : List Int} {s : Int} {o : List Int} {a c i : Int} (hs : CR l.length s ∧ 0 ≤ i ∧ i * s < l.length) (ho : i ∉ o) (hh : hits a c (bnd i l.length s).1 (bnd i l.length s).2) :
    piece (ofM l s o l.length) a c l.length s i = cutL l (mx a (i * s)) (mn c (mn (i * s + s) l.length)) := by
  have hb := bnd_in hs
  unfold piece
  rw [ofM_at hs, if_neg ho]
  unfold meet
  rw [if_pos hh]
  obtain ⟨_, ⟨h0, _, _⟩, hlt⟩ := hh
  rw [hb.1, hb.2] at *
  have m1 := mx_eq a (i * s)
  have m2 := mn_eq c (mn (i * s + s) l.length)
  simp only [Option.getD_some]
  exact cutL_cut l h0 (by omega) (by omega) (by omega)
theorem run_of {l : List Int} {s : Int} {o : List Int} {a c : Int} (h0 : SR a c) (h1 : c ≤ l.length) (h2 : CR l.length s) (d : Nat) : ∀ i : Int, (cof a c s).1 ≤ i → i + d = (cof a c s).2 →
    runB (ofM l s o l.length) a c l.length s d i (cutL l a (mn c (mx a (i * s)))) = if ∀ j ∈ o, ¬ (i ≤ j ∧ j < (cof a c s).2) then some (cutL l a c) else none := by
  have hs : 1 ≤ s ∧ s ≤ 64 := ⟨h2.2.2.1, h2.2.2.2⟩
  have e : cof a c s = (a / s, (c - 1) / s + 1) := by unfold cof; rw [if_pos ⟨h0, hs⟩]
  have hh := h0
  obtain ⟨g0, g1, g2⟩ := hh
  have k1 : a < (a / s + 1) * s := Int.lt_ediv_add_one_mul_self a (by omega)
  have k2 : (c - 1) / s * s ≤ c - 1 := Int.ediv_mul_le _ (by omega)
  have k6 : c - 1 < ((c - 1) / s + 1) * s := Int.lt_ediv_add_one_mul_self _ (by omega)
  have d0 := Int.ediv_nonneg g0 (show 0 ≤ s by omega)
  induction d with
  | zero =>
    intro i hi he
    rw [runB, if_pos (fun j _ h => by omega)]
    have hte : i = (c - 1) / s + 1 := by rw [e] at he; simp only at he; omega
    have m1 := mx_eq a (i * s)
    have m2 := mn_eq c (mx a (i * s))
    rw [← hte] at k6
    rw [show mn c (mx a (i * s)) = c by omega]
  | succ d ih =>
    intro i hi he
    have hlt : i < (cof a c s).2 := by omega
    have hhit := of_hits h0 h1 h2 hi hlt
    rw [e] at hi hlt
    simp only at hi hlt
    have k3 : (a / s + 1) * s ≤ (i + 1) * s := Int.mul_le_mul_of_nonneg_right (by omega) (by omega)
    have k4 : i * s ≤ (c - 1) / s * s := Int.mul_le_mul_of_nonneg_right (by omega) (by omega)
    have k5 : (i + 1) * s = i * s + s := by rw [Int.add_mul, Int.one_mul]
    have hslot : CR l.length s ∧ 0 ≤ i ∧ i * s < l.length := ⟨h2, by omega, by omega⟩
    have k7 : 0 ≤ i * s := Int.mul_nonneg (by omega) (by omega)
    rw [runB, has_of hslot]
    by_cases ho : i ∈ o
    · rw [if_neg (by simp [ho]), if_neg (fun h => h i ho ⟨Int.le_refl _, by rw [e]; exact hlt⟩)]
    · rw [if_pos (by simp [ho]), piece_of hslot ho hhit]
      have m1 := mx_eq a (i * s)
      have m2 := mn_eq c (mx a (i * s))
      have m3 := mn_eq (i * s + s) (l.length : Int)
      have m4 := mn_eq c (mn (i * s + s) l.length)
      have m5 := mx_eq a ((i + 1) * s)
      have m6 := mn_eq c (mx a ((i + 1) * s))
      rw [show mn c (mx a (i * s)) = mx a (i * s) by omega, cutL_app l g0 (by omega) (by omega) (by omega), show mn c (mn (i * s + s) l.length) = mn c (mx a ((i + 1) * s)) by omega]
      rw [ih (i + 1) (by rw [e]; show a / s ≤ i + 1; omega) (by push_cast at he; omega)]
      by_cases hall : ∀ j ∈ o, ¬ (i + 1 ≤ j ∧ j < (cof a c s).2)
      · rw [if_pos hall, if_pos (fun j hj h => by
          by_cases ej : j = i
          · rw [ej] at hj; exact ho hj
          · exact hall j hj ⟨by omega, h.2⟩)]
      · rw [if_neg hall, if_neg (fun h => hall (fun j hj hh => h j hj ⟨by omega, hh.2⟩))]
theorem body_of {l : List Int} {s : Int} {o : List Int} {a c : Int} (h2 : CR l.length s) : bodyP (ofM l s o l.length) a c l.length s = if SR a c ∧ c ≤ l.length ∧ ∀ j ∈ o, ¬ ((cof a c s).1 ≤ j ∧ j < (cof a c s).2) then some (cutL l a c) else none := by
  unfold bodyP
  by_cases h0 : SR a c
  · by_cases h1 : c ≤ (l.length : Int)
    · rw [if_pos ⟨h0, h1, h2⟩]
      have hb := cof_bd a c l.length s h0 h1 h2
      have hr := run_of (o := o) h0 h1 h2 ((cof a c s).2 - (cof a c s).1).toNat (cof a c s).1 (Int.le_refl _) (by omega)
      have hs : 1 ≤ s ∧ s ≤ 64 := ⟨h2.2.2.1, h2.2.2.2⟩
      have e : cof a c s = (a / s, (c - 1) / s + 1) := by unfold cof; rw [if_pos ⟨h0, hs⟩]
      have k2 : a / s * s ≤ a := Int.ediv_mul_le _ (by omega)
      have m1 := mx_eq a (a / s * s)
      have m2 := mn_eq c (mx a (a / s * s))
      have hlt := h0.2.1
      rw [show mn c (mx a ((cof a c s).1 * s)) = a by rw [e]; show mn c (mx a (a / s * s)) = a; omega, show cutL l a a = [] by unfold cutL; rw [List.drop_eq_nil_iff, List.length_take]; omega] at hr
      rw [hr]
      by_cases hall : ∀ j ∈ o, ¬ ((cof a c s).1 ≤ j ∧ j < (cof a c s).2)
      · rw [if_pos hall, if_pos ⟨h0, h1, hall⟩]
      · rw [if_neg hall, if_neg (fun h => hall h.2.2)]
    · rw [if_neg (fun h => h1 h.2.1), if_neg (fun h => h1 h.2.1)]
  · rw [if_neg (fun h => h0 h.1), if_neg (fun h => h0 h.1)]
/-- the whole object -/
theorem whole_all {l : List Int} {s : Int} (hl : l ≠ []) (h2 : CR l.length s) : bodyP (ofM l s [] l.length) 0 l.length l.length s = some l := by
  have hpos : 0 < l.length := List.length_pos_iff.2 hl
  have hb := h2.2.1
  rw [body_of h2, if_pos ⟨⟨by omega, by omega, by omega⟩, Int.le_refl _, fun j hj => by simp at hj⟩]
  unfold cutL
  simp
theorem whole_less {l : List Int} {s i : Int} (hl : l ≠ []) (h2 : CR l.length s) : (bodyP (ofM l s [i] l.length) 0 l.length l.length s).isSome = !decide (0 < (bnd i l.length s).2) := by
  have hpos : 0 < l.length := List.length_pos_iff.2 hl
  have hb := h2.2.1
  have hs : 1 ≤ s ∧ s ≤ 64 := ⟨h2.2.2.1, h2.2.2.2⟩
  have h0 : SR 0 l.length := ⟨by omega, by omega, by omega⟩
  have e : cof 0 (l.length : Int) s = (0 / s, ((l.length : Int) - 1) / s + 1) := by unfold cof; rw [if_pos ⟨h0, hs⟩]
  have hiff : (0 < (bnd i l.length s).2) ↔ 0 ≤ i ∧ i < ((l.length : Int) - 1) / s + 1 := by
    rw [(bnd_pos i l.length s).1]
    constructor
    · rintro ⟨_, a, b⟩
      refine ⟨a, ?_⟩
      have : i ≤ ((l.length : Int) - 1) / s := (Int.le_ediv_iff_mul_le (by omega)).2 (by omega)
      omega
    · rintro ⟨a, b⟩
      refine ⟨h2, a, ?_⟩
      have := (Int.le_ediv_iff_mul_le (a := i) (b := (l.length : Int) - 1) (c := s) (by omega)).1 (by omega)
      omega
  rw [body_of h2]
  by_cases h : 0 < (bnd i l.length s).2
  · rw [decide_eq_true h, if_neg (fun hh => hh.2.2 i (by simp) ⟨by rw [e]; simp only [Int.zero_ediv]; exact (hiff.1 h).1, by rw [e]; exact (hiff.1 h).2⟩)]
    rfl
  · rw [decide_eq_false h, if_pos ⟨h0, Int.le_refl _, fun j hm hh => by
      simp only [List.mem_singleton] at hm
      subst hm
      rw [e] at hh
      simp only [Int.zero_ediv] at hh
      exact h (hiff.2 hh)⟩]
    rfl
end Go.Proofs.Ytiecjkkjcdjndaa.Asm
namespace Go.Proofs.Ytiecjkkjcdjndaa.Asm
open Go Go.RowKit Go.Shelf Go.Proofs Go.Proofs.Ytiecjkkjcdjndaa.Xw Go.Proofs.Ytiecjkkjcdjndaa.PAll Go.Proofs.YtiecjkkjcdjndaaW.PrintWords Go.Proofs.YtiecjkkjcdjndaaW.PrintLast Go.Proofs.YtiecjkkjcdjndaaW.PrintMore Go.Proofs.Ytiecjkkjcdjndaa.Mp Go.Proofs.Ytiecjkkjcdjndaa.Pure
attribute [local go_sem] Oper.semAt_some
theorem whole0_calls (mv : Value) (s : Int) (w : World) : Calls Try.prog 7 #[mv, .int .i64 0, .int .i64 s] w fun e w' => e = .returned (.tuple #[.slice none 0 0, .bool (decide (CR 0 s))]) ∧ Below w.heap.size w w' := by
  have CC := Aside0.mk (fun X => cuts_Right.calls 0 s _ X (right_eq 0 s))
  generalize decide (CR 0 s) = d at CC
  go_enter Try.func7, Try.ntmps7
  go_wp2_with (go_at_call 21; refine (CC.out _).mono ?_; rintro e X1 ⟨rfl, hb1⟩)
  refine bodyPost_ret (results_tmp2 rfl _ _ _) rfl ?_
  exact ⟨rfl, hb1.below⟩
theorem whole_calls (b cnt : Nat) (F : Int → Option (List Int)) (n s : Int) (hn : n ≠ 0) (w : World) (hm : MB w b cnt F) :
    Calls Try.prog 7 #[.map (some b), .int .i64 n, .int .i64 s] w fun e w' => ∃ v, e = .returned (.tuple #[v, .bool (bodyP F 0 n n s).isSome]) ∧ RowB w' v ((bodyP F 0 n n s).getD []) ∧ Below w.heap.size w w' := by
  have CB := Aside0.mk (body_calls b cnt F 0 n n s w hm)
  have d0 : (n == 0) = false := beq_eq_false_iff_ne.mpr hn
  clear hm
  go_enter Try.func7, Try.ntmps7
  go_wp2_with (go_at_call 15; refine CB.out.mono ?_; rintro e X1 ⟨v, rfl, hr, hb⟩)
  refine bodyPost_ret (results_tmp2 rfl _ _ _) rfl ?_
  exact ⟨_, rfl, hr, hb⟩
end Go.Proofs.Ytiecjkkjcdjndaa.Asm
namespace Go.Proofs.Ytiecjkkjcdjndaa.Pure
open Go.RowKit Go.Proofs.Ytiecjkkjcdjndaa.PAll Go.Proofs.YtiecjkkjcdjndaaW.PrintWords Go.Proofs.YtiecjkkjcdjndaaW.PrintLast Go.Proofs.YtiecjkkjcdjndaaW.PrintMore
theorem bytes_loop (l m : List Int) (hl : l.length = m.length) (hb : l.length ≤ 9223372036854775807) (d : Nat) : ∀ i : Int, 0 ≤ i → i ≤ l.length → (l.length : Int) - i = d → l.take i.toNat = m.take i.toNat →
    Ev (fun k => spenceref01_Bytes.l0 k l m l.length i) (decide (l = m)) := by
  induction d with
  | zero =>
    intro i h0 h1 hd ht
    refine Ev.pos (fun k => ?_)
    simp only [spenceref01_Bytes.l0]
    rw [List.take_of_length_le (by omega), List.take_of_length_le (by omega)] at ht
    rw [if_neg (by omega), decide_eq_true ht]
  | succ d ih =>
    intro i h0 h1 hd ht
    have hi : i < l.length := by omega
    have a1 : i.toNat < l.length := by omega
    have a2 : i.toNat < m.length := by omega
    have r1 : rd l i = l[i.toNat] := by simp [rd, a1]
    have r2 : rd m i = m[i.toNat] := by simp [rd, a2]
    by_cases he : l[i.toNat] = m[i.toNat]
    · refine Ev.step (fun k => ?_) (ih (i + 1) (by omega) (by omega) (by omega) ?_)
      · simp only [spenceref01_Bytes.l0, r1, r2]
        rw [if_pos hi, if_pos h0, if_pos hi, if_pos (by omega), if_pos he, wrap_id (by omega)]
      · have e : (i + 1).toNat = i.toNat + 1 := by omega
        rw [e, List.take_succ_eq_append_getElem a1, List.take_succ_eq_append_getElem a2, ht, he]
    · refine Ev.pos (fun k => ?_)
      have hne : ¬ l = m := fun h => he (by subst h; rfl)
      simp only [spenceref01_Bytes.l0, r1, r2]
      rw [if_pos hi, if_pos h0, if_pos hi, if_pos (by omega), if_neg he, decide_eq_false hne]
theorem bytes_ev (l m : List Int) (hb : l.length ≤ 9223372036854775807) : Ev (fun k => spenceref01_Bytes.f k l m) (decide (l = m)) := by
  unfold spenceref01_Bytes.f
  by_cases h : l.length = m.length
  · simp only [show (l.length : Int) = (m.length : Int) by omega, if_true]
    have := bytes_loop l m h hb l.length 0 (by omega) (by omega) (by omega) rfl
    rw [h] at this
    exact this
  · simp only [show ¬ (l.length : Int) = (m.length : Int) by omega, if_false]
    rw [decide_eq_false (fun e => h (by rw [e]))]
    exact Ev.now _
end Go.Proofs.Ytiecjkkjcdjndaa.Pure
namespace Go.Proofs.Ytiecjkkjcdjndaa.Asm
open Go Go.RowKit Go.Shelf Go.Proofs Go.Proofs.Ytiecjkkjcdjndaa.Xw Go.Proofs.Ytiecjkkjcdjndaa.PAll Go.Proofs.YtiecjkkjcdjndaaW.PrintWords Go.Proofs.YtiecjkkjcdjndaaW.PrintLast Go.Proofs.YtiecjkkjcdjndaaW.PrintMore Go.Proofs.Ytiecjkkjcdjndaa.Mp Go.Proofs.Ytiecjkkjcdjndaa.Pure
attribute [local go_sem] Oper.semAt_some
theorem below_turned {B b : Nat} {w W W' : World} (h : Below B w W) (hT : W.mapTurned W' b) (hB : B ≤ b) (hs : B ≤ W.heap.size) : Below B w W' := pw_below_grown h (some b) hs hT.grown (fun k hk => by cases hk; exact hB)
theorem row_marked (W : World) (xs : List Int) (fr : Nat × Nat) (hl : xs.length ≤ 1000000) : RowB (W.alloc (.cells (nums .u8 xs).toArray 5 fr)) (.slice (some ⟨W.heap.size, 0, none⟩) xs.length xs.length) xs := by
  refine ⟨_, _, rfl, Nat.le_refl _, rfl, by omega, fun _ => ⟨_, rfl, fun j p hp => ⟨[.int .u8 p], rfl, rfl, fun i u hu => ?_⟩⟩⟩
  have hc := cell_of_row (W.alloc (.cells (nums .u8 xs).toArray 5 fr)) W.heap.size j (nums .u8 xs).toArray 5 fr (blk_new W _)
  rw [add_plain]
  cases i with
  | zero =>
    obtain rfl : Value.int .u8 p = u := by simpa using hu
    rw [show j * (Kd.int .u8).sz + 0 = j by show j * 1 + 0 = j; omega, hc]
    simp [nums, hp]
  | succ i => simp at hu
set_option maxRecDepth 100000 in
set_option maxHeartbeats 4000000 in
theorem awake_calls (w : World) : Calls Try.prog 6 #[] w fun e w' => e = .returned (.bool true) ∧ Below w.heap.size w w' := by
  have hmk := @run_makeMap Try.prog
  have hb0 : bodyP (putF (putF (fun _ => none) 0 [65, 66]) 1 [67]) 1 3 3 2 = some [66, 67] := by kernel_rfl
  have hM0 := Aside0.mk (MapB.made Try.prog 3 w)
  have hB0 := Aside0.mk (below_alloc (Below.refl w.heap.size w) (.map #[] 0))
  have hr1 : RowB ((w.alloc (.map #[] 0)).alloc (.cells #[.int .u8 65, .int .u8 66] 5 (2, 3))) (.slice (some ⟨w.heap.size + 1, 0, none⟩) 2 2) [65, 66] := by
    have := row_marked (w.alloc (.map #[] 0)) [65, 66] (2, 3) (by decide)
    rw [alloc_size] at this
    exact this
  replace hr1 := Aside0.mk hr1
  have hcv1 := Lib.run_convert_bytes_const (P := Try.prog) (w.alloc (.map #[] 0)) 22 5 #[.int .u8 65, .int .u8 66] 2 2 Try.underlying22 Try.underlying5
  have hcv2 := fun W1 => Lib.run_convert_bytes_const (P := Try.prog) W1 22 5 #[.int .u8 67] 1 1 Try.underlying22 Try.underlying5
  rw [alloc_size] at hcv1
  have hs1 : (strOfNums [66, 67]) = ⟨#[66, 67]⟩ := by kernel_rfl
  go_enter Try.func6, Try.ntmps6
  go_wp2_with (first | (refine wpList_ins (l := [65, 66]) rfl _ _ _ 27 rfl Try.underlying3 Try.underlying27 (n := 0) (by decide) rfl (hM0.out.below (below_alloc (Below.refl _ _) _)) (i := 0) rfl (by decide) rfl hr1.out ?_; intro W1 hM1 hT1; have hB1 := Aside0.mk (below_turned (below_alloc hB0.out (.cells #[.int .u8 65, .int .u8 66] 5 (2, 3))) hT1 (Nat.le_refl _) (below_alloc hB0.out (.cells #[.int .u8 65, .int .u8 66] 5 (2, 3))).size); have hr2 : Aside0 (RowB (W1.alloc (.cells #[.int .u8 67] 5 (1, 2))) (.slice (some ⟨W1.heap.size, 0, none⟩) 1 1) [67]) := Aside0.mk (row_marked W1 [67] (1, 2) (by decide))) | (refine wpList_ins (l := [67]) rfl _ _ _ 27 rfl Try.underlying3 Try.underlying27 (n := 1) (by decide) rfl (hM1.below (below_alloc (Below.refl _ _) _)) (i := 1) rfl (by decide) rfl hr2.out ?_; intro W2 hM2 hT2; have hB2 := Aside0.mk (below_turned (below_alloc hB1.out (.cells #[.int .u8 67] 5 (1, 2))) hT2 (Nat.le_refl _) (below_alloc hB1.out (.cells #[.int .u8 67] 5 (1, 2))).size); have CB := body_calls _ _ _ 1 3 3 2 W2 hM2; rw [hb0] at CB; replace CB := Aside0.mk CB) | (go_at_call 15; refine CB.out.mono ?_; rintro e W3 ⟨v, rfl, ⟨A, c, rfl, hl, hC⟩, hb⟩; have hcs : (convert 22 9 (.slice A 2 c)).run Try.prog W3 = .ok (.string ⟨#[66, 67]⟩) W3 := by (have h_ := Kd.C_string (P := Try.prog) (src := 22) (dst := 9) (c := c) Try.underlying22 Try.underlying5 Try.underlying9 hC; simp only [Option.getD_some] at h_; rw [hs1] at h_; exact h_)))
  go_ret
  exact ⟨by first | rfl | simp, below_step hB2.out hb⟩
/-- assemble.Whole's answer -/
def wholeP (F : Int → Option (List Int)) (n s : Int) : Option (List Int) := if n = 0 then (if CR 0 s then some [] else none) else bodyP F 0 n n s
theorem wholeP_calls (b cnt : Nat) (F : Int → Option (List Int)) (n s : Int) (w : World) (hm : MB w b cnt F) :
    Calls Try.prog 7 #[.map (some b), .int .i64 n, .int .i64 s] w fun e w' => ∃ v, e = .returned (.tuple #[v, .bool (wholeP F n s).isSome]) ∧ RowB w' v ((wholeP F n s).getD []) ∧ Below w.heap.size w w' := by
  unfold wholeP
  by_cases hn : n = 0
  · subst hn
    rw [if_pos rfl]
    refine (whole0_calls (.map (some b)) s w).mono ?_
    rintro e X ⟨rfl, hb⟩
    by_cases h : CR 0 s
    · rw [if_pos h, decide_eq_true h]
      exact ⟨_, rfl, ⟨none, 0, rfl, Nat.le_refl _, rfl, by simp, fun h => absurd h (by simp)⟩, hb⟩
    · rw [if_neg h, decide_eq_false h]
      exact ⟨_, rfl, ⟨none, 0, rfl, Nat.le_refl _, rfl, by simp, fun h => absurd h (by simp)⟩, hb⟩
  · rw [if_neg hn]
    exact whole_calls b cnt F n s hn w hm
theorem wholeP_all {l : List Int} {s : Int} (h2 : CR l.length s) : wholeP (ofM l s [] l.length) l.length s = some l := by
  unfold wholeP
  by_cases hl : l = []
  · subst hl
    rw [if_pos (show ((([] : List Int).length : Nat) : Int) = 0 from rfl), if_pos (show CR 0 s from h2)]
  · have := List.length_pos_iff.2 hl
    rw [if_neg (by omega), whole_all hl h2]
theorem wholeP_less {l : List Int} {s i : Int} (h2 : CR l.length s) : (wholeP (ofM l s [i] l.length) l.length s).isSome = !decide (0 < (bnd i l.length s).2) := by
  unfold wholeP
  by_cases hl : l = []
  · subst hl
    have hy : (bnd i (([] : List Int).length : Int) s).2 = 0 := (bnd_pos i _ s).2.2.2 (fun h => by
      have h3 := h.2.2
      have := Int.mul_nonneg h.2.1 (show 0 ≤ s by have := h2.2.2.1; omega)
      simp at h3
      omega)
    rw [if_pos (show ((([] : List Int).length : Nat) : Int) = 0 from rfl), if_pos (show CR 0 s from h2), hy]
    rfl
  · have := List.length_pos_iff.2 hl
    rw [if_neg (by omega), whole_less hl h2]
theorem lit_C (W : World) (i : Int) : (Kd.int .i64).C (W.alloc (.cells #[.int .i64 i] 3)) (some ⟨W.heap.size, 0, none⟩) [i].length [i] := by
  refine ⟨rfl, by simp, fun _ => ⟨_, rfl, fun j p hp => ⟨[.int .i64 p], rfl, rfl, fun m u hu => ?_⟩⟩⟩
  have hc := cell_of_row (W.alloc (.cells #[.int .i64 i] 3)) W.heap.size j #[.int .i64 i] 3 (0, 0) (blk_new W _)
  rw [add_plain]
  cases m with
  | zero =>
    obtain rfl : Value.int .i64 p = u := by simpa using hu
    rw [show j * (Kd.int .i64).sz + 0 = j by show j * 1 + 0 = j; omega, hc]
    cases j with
    | zero => simpa using hp
    | succ j => simp at hp
  | succ m => simp at hu
theorem nil_C (k : IntKind) (W : World) : (Kd.int k).C W none ([] : List Int).length [] := ⟨rfl, by decide, fun h => absurd h (by simp)⟩
set_option maxRecDepth 100000 in
set_option maxHeartbeats 4000000 in
theorem whole_law (A : Option Addr) (c : Nat) (l : List Int) (s i : Int) (w : World) (hC : (Kd.int .u8).C w A l.length l) (hc : l.length ≤ c) :
    Calls Try.prog 3 #[.slice A l.length c, .int .i64 s, .int .i64 i] w fun e w' => e = .returned (.bool true) ∧ Below w.heap.size w w' := by
  have CAw := Aside0.mk (awake_calls w)
  replace hC := Aside0.mk hC
  by_cases g1 : (l.length : Int) > 600
  · have d1 : decide ((l.length : Int) > 600) = true := decide_eq_true g1
    have d1' : decide (600 < (l.length : Int)) = true := decide_eq_true g1
    replace g1 := Aside0.mk g1
    go_enter Try.func3, Try.ntmps3
    go_wp2_with (go_at_call 6; refine CAw.out.mono ?_; rintro e X1 ⟨rfl, hb1⟩)
    go_ret
    exact ⟨rfl, hb1⟩
  have d1 : decide ((l.length : Int) > 600) = false := decide_eq_false g1
  have d1' : decide (600 < (l.length : Int)) = false := decide_eq_false g1
  by_cases g2 : s < 1
  · have d2 : decide (s < 1) = true := decide_eq_true g2
    replace g1 := Aside0.mk g1
    replace g2 := Aside0.mk g2
    go_enter Try.func3, Try.ntmps3
    go_wp2_with (go_at_call 6; refine CAw.out.mono ?_; rintro e X1 ⟨rfl, hb1⟩)
    go_ret
    exact ⟨rfl, hb1⟩
  have d2 : decide (s < 1) = false := decide_eq_false g2
  by_cases g3 : s > 64
  · have d3 : decide (s > 64) = true := decide_eq_true g3
    have d3' : decide (64 < s) = true := decide_eq_true g3
    replace g1 := Aside0.mk g1
    replace g2 := Aside0.mk g2
    replace g3 := Aside0.mk g3
    go_enter Try.func3, Try.ntmps3
    go_wp2_with (go_at_call 6; refine CAw.out.mono ?_; rintro e X1 ⟨rfl, hb1⟩)
    go_ret
    exact ⟨rfl, hb1⟩
  have d3 : decide (s > 64) = false := decide_eq_false g3
  have d3' : decide (64 < s) = false := decide_eq_false g3
  have hcr : CR l.length s := ⟨by omega, by omega, by omega, by omega⟩
  have COa : ∀ (X : World), (Kd.int .u8).C X A l.length l → Calls Try.prog 8 #[.slice A l.length c, .int .i64 s, .slice none 0 0] X fun e w' => ∃ b, e = .returned (.map (some b)) ∧ MB w' b l.length (ofM l s [] l.length) ∧ Below X.heap.size X w' := fun X hX => of_calls A c l s none 0 [] X hX hc (nil_C .i64 X) (Nat.le_refl _) (by omega) (by decide)
  replace COa := Aside0.mk COa
  have COb : ∀ (X : World) (Y : Nat), (Kd.int .u8).C X A l.length l → (Kd.int .i64).C X (some ⟨Y, 0, none⟩) [i].length [i] → Calls Try.prog 8 #[.slice A l.length c, .int .i64 s, .slice (some ⟨Y, 0, none⟩) 1 1] X fun e w' => ∃ b, e = .returned (.map (some b)) ∧ MB w' b l.length (ofM l s [i] l.length) ∧ Below X.heap.size X w' := fun X Y hX hY => of_calls A c l s (some ⟨Y, 0, none⟩) 1 [i] X hX hc hY (by simp) (by omega) (by simp)
  replace COb := Aside0.mk COb
  have CBo := Aside0.mk (fun X => spenceref04_Bounds.calls 1 i l.length s (bnd i l.length s).1 (bnd i l.length s).2 X (ref_bounds_eq 0 i l.length s))
  have CW0 := fun X => whole0_calls (.map none) 65 X
  rw [decide_eq_false (show ¬ CR 0 65 from fun h => by have := h.2.2.2; omega)] at CW0
  replace CW0 := Aside0.mk CW0
  obtain ⟨kb, hkb⟩ := bytes_ev l l (by omega)
  rw [decide_eq_true rfl] at hkb
  have CBy := Aside0.mk (fun A1 c1 X h1 h2 h3 => spenceref01_Bytes.calls kb A1 c1 l A c l true X h1 h2 h3 hc (hkb kb (Nat.le_refl _)))
  have hlb : l.length ≤ 600 := by omega
  replace g1 := Aside0.mk g1
  replace g2 := Aside0.mk g2
  replace g3 := Aside0.mk g3
  have CWa := fun b1 X hM => wholeP_calls b1 l.length (ofM l s [] l.length) l.length s X hM
  rw [wholeP_all hcr] at CWa
  have CWb := fun b1 X hM => wholeP_calls b1 l.length (ofM l s [i] l.length) l.length s X hM
  have hls := wholeP_less (l := l) (i := i) hcr
  simp only [Option.isSome_some, Option.getD_some] at CWa
  generalize (bnd i (l.length : Int) s).1 = x at CBo
  generalize (bnd i (l.length : Int) s).2 = y at CBo hls
  rw [hls] at CWb
  clear hls
  generalize (wholeP (ofM l s [i] l.length) l.length s).getD [] = lb at CWb
  replace CWa := Aside0.mk CWa
  replace CWb := Aside0.mk CWb
  replace hcr := Aside0.mk hcr
  replace hkb := Aside0.mk hkb
  by_cases hy : 0 < y
  all_goals
    first | (have e1 : decide (0 < y) = true := decide_eq_true hy; have e2 : decide (y > 0) = true := decide_eq_true hy) | (have e1 : decide (0 < y) = false := decide_eq_false hy; have e2 : decide (y > 0) = false := decide_eq_false hy)
    rw [e1] at CWb
    replace hy := Aside0.mk hy
    go_enter Try.func3, Try.ntmps3
    go_wp2_with (first | (go_at_call 10; (with_reducible refine (CBy.out _ _ _ hC3.out hl3.out (Kd.C_below hC.out hb7.out)).mono ?_); rintro e X8 ⟨rfl, hb8⟩) | (go_at_call 7; have hz := hb6; (with_reducible refine (CW0.out _).mono ?_); rintro e X7 ⟨rfl, hb7⟩; replace hC3 := Aside0.mk (Kd.C_below hC3.out hb7); replace hb7 := Aside0.mk (below_step hb6.out hb7)) | (go_at_call 9; (with_reducible refine (CBo.out _).mono ?_); rintro e X6 ⟨rfl, hb6⟩; replace hC3 := Aside0.mk (Kd.C_below hC3.out hb6); replace hb6 := Aside0.mk (below_step hb5.out hb6)) | (go_at_call 7; (with_reducible refine (CWb.out b2 _ hM2.out).mono ?_); rintro e X5 ⟨v5, rfl, ⟨A5, c5, rfl, hl5, hC5⟩, hb5⟩; replace hC3 := Aside0.mk (Kd.C_below hC3.out hb5); replace hb5 := Aside0.mk (below_step hb4.out hb5)) | (go_at_call 8; (with_reducible refine (COb.out _ _ (Kd.C_below hC.out hb3.out) (lit_C _ i)).mono ?_); rintro e X4 ⟨b2, rfl, hM2, hb4⟩; replace hC3 := Aside0.mk (Kd.C_below (Kd.C_below hC3.out (below_alloc (Below.refl _ _) (.cells #[.int .i64 i] 3))) hb4); replace hb4 := Aside0.mk (below_step hb3.out hb4); replace hM2 := Aside0.mk hM2) | (go_at_call 7; (with_reducible refine (CWa.out b1 _ hM1.out).mono ?_); rintro e X3 ⟨v3, rfl, ⟨A3, c3, rfl, hl3, hC3⟩, hb3⟩; replace hb3 := Aside0.mk (below_alloc (below_step hb2.out hb3) (.cells #[.int .i64 i] 3)); replace hC3 := Aside0.mk hC3; replace hl3 := Aside0.mk hl3) | (go_at_call 8; (with_reducible refine (COa.out _ (Kd.C_below hC.out hb1.out)).mono ?_); rintro e X2 ⟨b1, rfl, hM1, hb2⟩; replace hb2 := Aside0.mk (below_step hb1.out hb2); replace hM1 := Aside0.mk hM1) | (go_at_call 6; (with_reducible refine CAw.out.mono ?_); rintro e X1 ⟨rfl, hb1⟩; replace hb1 := Aside0.mk hb1))
    go_ret
    exact ⟨rfl, below_step hb7.out hb8.below⟩
end Go.Proofs.Ytiecjkkjcdjndaa.Asm
namespace Go.Proofs.Ytiecjkkjcdjndaa.PAll
open Go.RowKit Go.Proofs.Ytiecjkkjcdjndaa.Xw Go.Proofs.YtiecjkkjcdjndaaW.PrintWords Go.Proofs.YtiecjkkjcdjndaaW.PrintLast Go.Proofs.YtiecjkkjcdjndaaW.PrintMore
theorem spencelaw37_AssembleWhole.calls (A0 : Option Addr) (c0 : Nat) (l0 : List Int) (a1 a2 : Int) (r : Bool) (w : World) (hr0 : Kd.C (Kd.int .u8) w A0 l0.length l0) (hc0 : l0.length ≤ c0) (h : spencelaw37_AssembleWhole.f l0 a1 a2 = some r) :
    Calls Try.prog 3 #[.slice A0 l0.length c0, .int .i64 a1, .int .i64 a2] w fun e w' => e = .returned (.bool r) ∧ Below w.heap.size w w' := by
  obtain rfl := Option.some.inj h
  exact Asm.whole_law A0 c0 l0 a1 a2 w hr0 hc0
end Go.Proofs.Ytiecjkkjcdjndaa.PAll
namespace Go.Proofs.Ytiecjkkjcdjndaa.Pure
open Go.Proofs.Ytiecjkkjcdjndaa.PAll
theorem AssembleWhole (l0 : List Int) (a1 a2 : Int) (_ : l0.length * 1 ≤ 140737488351232) (_ : ∀ x ∈ l0, (Lit.int .u8 x).wf = true) (_ : (Lit.int .i64 a1).wf = true) (_ : (Lit.int .i64 a2).wf = true) : spencelaw37_AssembleWhole.f l0 a1 a2 = some true := rfl
end Go.Proofs.Ytiecjkkjcdjndaa.Pure
namespace Go.Proofs.Ytiecjkkjcdjndaa.assembleWhole
open Go.ChangeShapes Go.WideShapes Go.ChangeAt Go.RowKit Go.Proofs.Ytiecjkkjcdjndaa.Rd Go.Proofs.Ytiecjkkjcdjndaa.PAll Go.Proofs.YtiecjkkjcdjndaaW.PrintWords
open Go.ChangeMaps (open_string shut_string)
set_option linter.unusedVariables false
theorem own : ownKnob Try.prog.godebug = none := by kernel_rfl
theorem laidOut : laidOutB Try.prog = true := by kernel_rfl
set_option maxRecDepth 100000 in
set_option maxHeartbeats 4000000 in
theorem lifted (os : Os) (started : os.Started) (H : Type) (enc : TypeId × Value → H) :
    ReturnsInHanded {} Try.checked os 3 .any (Rows.assembleWholeSpec.pre6 enc Try.prog Try.f3 Rows.assembleWholeRow.domain false) (Rows.assembleWholeSpec.post enc Try.prog Try.f3 false true false false) := by
  refine returnsInHanded_of_change_sized (C := Try.checked) own started (by kernel_rfl) Try.func3
    (ChangeSpec.witness6 (enc := enc) (C := Try.checked) false ⟨#[], #[.slice none 0 0, .int .i64 0, .int .i64 0], []⟩ 8 (by kernel_rfl) (by kernel_rfl) (by kernel_rfl) (by kernel_rfl)) ?_
  intro W base args ds gs before hval0 hW hcnd hsz0 _
  have hsz : (DataW.weightsEach Try.prog (Try.f3.params.toList ++ Rows.assembleWholeSpec.plain.varTypes Try.prog) (ds ++ gs)).all (· ≤ reachBytes) = true := hsz0
  have hval : ∀ (j : Nat) t v, Try.f3.params[j]? = some t → args[j]? = some v → Value.okWide Try.prog W .any base t v := hval0
  have hW' := hW
  obtain ⟨p, q, hA0, hV, rfl, hfz, hnd⟩ := hW
  have hA : DataW.TrodAll enc Try.prog W 0 (fun _ => true) true Try.f3.params.toList args.toList ds p := hA0
  rw [Try.params3] at hA hval hsz
  obtain ⟨v0, vs0, d0, ds0, p0, q0, hargs, rfl, rfl, h0, r0⟩ := trodAll_cons hA
  obtain ⟨v1, vs1, d1, ds1, p1, q1, rfl, rfl, rfl, h1, r1⟩ := trodAll_cons r0
  obtain ⟨v2, vs2, d2, ds2, p2, q2, rfl, rfl, rfl, h2, r2⟩ := trodAll_cons r1
  obtain ⟨rfl, rfl, rfl⟩ := trodAll_nil r2
  obtain rfl : args = #[v0, v1, v2] := by cases args; simp_all
  obtain ⟨rfl, rfl⟩ := trodVars_none hV
  have k0 := h0
  have lt0 : ∀ x ∈ p0, x.block < W.heap.size := by obtain ⟨m, hm⟩ := k0; exact DataW.trod_lt m _ _ _ hm
  have k1 := h1
  have lt1 : ∀ x ∈ p1, x.block < W.heap.size := by obtain ⟨m, hm⟩ := k1; exact DataW.trod_lt m _ _ _ hm
  have k2 := h2
  have lt2 : ∀ x ∈ p2, x.block < W.heap.size := by obtain ⟨m, hm⟩ := k2; exact DataW.trod_lt m _ _ _ hm
  obtain ⟨A0, c0, l0, rfl, hc0, hC0, hok0, hb0⟩ := open_row Try.underlying22 (opens_int Try.underlying5) (by kernel_rfl) (hval 0 22 v0 rfl rfl) h0 hsz (j := 0) rfl rfl (B := 1) (by kernel_rfl)
  obtain ⟨a1, rfl, rfl, rfl, w1⟩ := open_int Try.underlying3 (hval 1 3 v1 rfl rfl) h1
  obtain ⟨a2, rfl, rfl, rfl, w2⟩ := open_int Try.underlying3 (hval 2 3 v2 rfl rfl) h2
  clear hA0 hval0 hsz0 hsz
  have hk := Pure.AssembleWhole l0 a1 a2 hb0 hok0 w1 w2
  refine (PAll.spencelaw37_AssembleWhole.calls _ _ l0 a1 a2 true W hC0 hc0 hk).mono fun e W' ⟨he, hd⟩ => ?_
  have bel : Below W.heap.size W W' := hd
  subst he
  exact ⟨_, rfl, _, _, _, [], _, [], hW', trodAll_mk1 (shut_bool Try.underlying4 _), (trodAll_cons_mk (Below.trod laidOut (by kernel_rfl) (of_decide_eq_true (by kernel_rfl)) k0 bel lt0) (trodAll_cons_mk (shut_int Try.underlying3 w1) (trodAll_cons_mk (shut_int Try.underlying3 w2) trodAll_mk0))), rfl, bel.frame _, fun h => by cases h⟩
theorem over : Rows.assembleWholeRow.holds Try.pinned (OpenSpec.ofChange Rows.assembleWholeSpec) :=
  OpenClaim.holds_of_wide 3 Try.f3 rfl rfl rfl rfl rfl rfl rfl ⟨rfl, rfl, rfl, rfl, rfl⟩ rfl rfl rfl rfl rfl (by kernel_rfl) Try.func3 (by kernel_rfl)
    (of_decide_eq_true (by kernel_rfl)) (by unfold Func.isWrapper; first | (rw [if_pos (by decide +kernel)]; kernel_rfl) | (rw [if_neg (by decide +kernel)]; exact ⟨rfl, rfl⟩))
    (fun os started H enc _ => lifted os started H enc)
theorem proved : Rows.AssembleWholeSaid := over
end Go.Proofs.Ytiecjkkjcdjndaa.assembleWhole
namespace Go.Proofs.Ytiecjkkjcdjndaa
theorem assembleWhole_holds : Rows.AssembleWholeSaid := assembleWhole.proved
#print axioms assembleWhole_holds
end Go.Proofs.Ytiecjkkjcdjndaa
