/- The law AssembleAdds: for every input the call returns true, and each argument reads behind the call as it read before. No condition. (The row, and the plain law ahead of it.) -/
import Derived.Test.YtiecjkkjcdjndaaKAssembleAdds1
import Derived.Shelf.Abstract
import Derived.Lib.SlBytesConst
import Derived.Maps.RangeWalk
import Derived.Maps.Ext
import Derived.Deep.RegionHeld3
import Derived.Deep.DrawnRows
import Derived.Test.YtiecjkkjcdjndaaRows
import Derived.WalkKit
import Derived.ProofKit
import Derived.OpenShut
import Derived.ShutString
import Derived.ChangeOld
import Derived.Below
import Derived.SizedLaws
namespace Go.Proofs.Ytiecjkkjcdjndaa.Asm
open Go Go.RowKit Go.Shelf Go.Proofs Go.Proofs.Ytiecjkkjcdjndaa.Xw Go.Proofs.Ytiecjkkjcdjndaa.PAll Go.Proofs.YtiecjkkjcdjndaaW.PrintWords Go.Proofs.YtiecjkkjcdjndaaW.PrintLast Go.Proofs.YtiecjkkjcdjndaaW.PrintMore Go.Proofs.Ytiecjkkjcdjndaa.Mp Go.Proofs.Ytiecjkkjcdjndaa.Pure
attribute [local go_sem] Oper.semAt_some
def cof (a0 a1 s : Int) : Int × Int := if SR a0 a1 ∧ 1 ≤ s ∧ s ≤ 64 then (a0 / s, (a1 - 1) / s + 1) else (0, 0)
theorem div_bd {x s : Int} (h : 0 ≤ x) (hs : 1 ≤ s) : 0 ≤ x / s ∧ x / s ≤ x := ⟨Int.ediv_nonneg h (by omega), Int.ediv_le_self _ h⟩
theorem of_eq (a0 a1 s : Int) : cuts_Of.f a0 a1 s = some (cof a0 a1 s) := by
  unfold cuts_Of.f cof
  simp only [span_right_eq, right_eq, Option.bind_some]
  by_cases h : SR a0 a1
  · have h' := h
    obtain ⟨g0, g1, g2⟩ := h'
    rw [if_pos (decide_eq_true h)]
    by_cases hs : 1 ≤ s ∧ s ≤ 64
    · have hc : CR 0 s := ⟨by omega, by omega, hs.1, hs.2⟩
      have d0 := div_bd (x := a0) g0 hs.1
      have d1 := div_bd (x := a1 - 1) (by omega) hs.1
      rw [if_pos (decide_eq_true hc), if_neg (by omega), if_pos ⟨h, hs⟩, Int.tdiv_eq_ediv_of_nonneg g0, wrap_id (x := a0 / s) (by omega), wrap_id (x := a1 - 1) (by omega), Int.tdiv_eq_ediv_of_nonneg (by omega),
        wrap_id (x := (a1 - 1) / s) (by omega), wrap_id (x := (a1 - 1) / s + 1) (by omega)]
    · have hc : ¬ CR 0 s := fun h => hs ⟨h.2.2.1, h.2.2.2⟩
      have hd : ¬ (decide (CR 0 s) = true) := by simpa using hc
      rw [if_neg hd, if_neg (fun h => hs h.2)]
  · have hd : ¬ (decide (SR a0 a1) = true) := by simpa using h
    rw [if_neg hd, if_neg (fun h' => h h'.1)]
/-- The bytes of d slices from i on, behind acc; none where one of them isn't there. -/
def runB (F : Int → Option (List Int)) (a c n s : Int) : Nat → Int → List Int → Option (List Int)
  | 0, _, acc => some acc
  | d + 1, i, acc => if hasP F n s i = true then runB F a c n s d (i + 1) (acc ++ piece F a c n s i) else none
def bodyP (F : Int → Option (List Int)) (a c n s : Int) : Option (List Int) :=
  if SR a c ∧ c ≤ n ∧ CR n s then runB F a c n s ((cof a c s).2 - (cof a c s).1).toNat (cof a c s).1 [] else none
theorem runB_none {F : Int → Option (List Int)} {a c n s : Int} {d : Nat} {i : Int} {acc : List Int} (h : hasP F n s i = false) : runB F a c n s (d + 1) i acc = none := by
  rw [runB, if_neg (by rw [h]; decide)]
theorem runB_step {F : Int → Option (List Int)} {a c n s : Int} {d : Nat} {i : Int} {acc : List Int} (h : hasP F n s i = true) : runB F a c n s (d + 1) i acc = runB F a c n s d (i + 1) (acc ++ piece F a c n s i) := by
  rw [runB, if_pos h]
theorem add_enters (args : Array Value) (w : World) : (callFunc 25 args).run Try.prog w = .ok (.enter 25 args) w := enters_of Try.func25 (by kernel_rfl) rfl args w
/-- the slices of a span meet it -/
theorem of_hits {a c n s i : Int} (h0 : SR a c) (h1 : c ≤ n) (h2 : CR n s) (hi0 : (cof a c s).1 ≤ i) (hi1 : i < (cof a c s).2) : hits a c (bnd i n s).1 (bnd i n s).2 := by
  have hs : 1 ≤ s ∧ s ≤ 64 := ⟨h2.2.2.1, h2.2.2.2⟩
  have e : cof a c s = (a / s, (c - 1) / s + 1) := by unfold cof; rw [if_pos ⟨h0, hs⟩]
  rw [e] at hi0 hi1
  simp only at hi0 hi1
  obtain ⟨g0, g1, g2⟩ := h0
  have d0 := Int.ediv_nonneg g0 (show 0 ≤ s by omega)
  have k1 : a < (a / s + 1) * s := Int.lt_ediv_add_one_mul_self a (by omega)
  have k2 : (c - 1) / s * s ≤ c - 1 := Int.ediv_mul_le _ (by omega)
  have k3 : (a / s + 1) * s ≤ (i + 1) * s := Int.mul_le_mul_of_nonneg_right (by omega) (by omega)
  have k4 : i * s ≤ (c - 1) / s * s := Int.mul_le_mul_of_nonneg_right (by omega) (by omega)
  have k5 : (i + 1) * s = i * s + s := by rw [Int.add_mul, Int.one_mul]
  have hslot : CR n s ∧ 0 ≤ i ∧ i * s < n := ⟨h2, by omega, by omega⟩
  have hb := bnd_in hslot
  have hp := (bnd_pos i n s).2.2.1 hslot
  have hp0 := (bnd_pos i n s).2.1
  have m1 := mx_eq a (bnd i n s).1
  have m2 := mn_eq c (bnd i n s).2
  have m3 := mn_eq (i * s + s) n
  refine ⟨⟨g0, g1, g2⟩, ⟨by omega, by omega, by omega⟩, ?_⟩
  rw [m1, m2, hb.1, hb.2, m3]
  have hn := h2.2.1
  omega
theorem alloc_size (w : World) (o : Obj) : (w.alloc o).heap.size = w.heap.size + 1 := by
  unfold World.alloc
  exact Array.size_push _
theorem own_row {w : World} {base : Nat} {v : Value} {xs : List Int} (h : w.ownsRow base 5 1 v xs.length (nums .u8 xs)) : RowB w v xs := by
  obtain ⟨A, c, rfl, hr⟩ := own_reads h
  refine ⟨A, c, rfl, ?_, Kd.C_of_reads (d := (0 : Int)) hr⟩
  rcases h.2 with ⟨h1, h2⟩ | ⟨g, cap, cur, h1, _, _, h2, _⟩
  · omega
  · injection h1 with _ _ h3
    omega
theorem piece_le {F : Int → Option (List Int)} {a c n s i : Int} (hP : hasP F n s i = true) (hh : hits a c (bnd i n s).1 (bnd i n s).2) : (piece F a c n s i).length ≤ 4096 := (piece_len hP hh).2.2.2.1.2
theorem cof_bd (a c n s : Int) (h0 : SR a c) (h1 : c ≤ n) (h2 : CR n s) : 0 ≤ (cof a c s).1 ∧ (cof a c s).1 ≤ (cof a c s).2 ∧ (cof a c s).2 ≤ 4097 := by
  have hs : 1 ≤ s ∧ s ≤ 64 := ⟨h2.2.2.1, h2.2.2.2⟩
  have e : cof a c s = (a / s, (c - 1) / s + 1) := by unfold cof; rw [if_pos ⟨h0, hs⟩]
  rw [e]
  obtain ⟨g0, g1, g2⟩ := h0
  have d0 := div_bd (x := a) g0 hs.1
  have d1 := div_bd (x := c - 1) (by omega) hs.1
  have d2 : a / s ≤ (c - 1) / s := Int.ediv_le_ediv (by omega) (by omega)
  have hn := h2.2.1
  refine ⟨d0.1, ?_, ?_⟩ <;> dsimp only <;> omega
set_option maxRecDepth 100000 in
set_option maxHeartbeats 4000000 in
theorem body_calls (b cnt : Nat) (F : Int → Option (List Int)) (a c n s : Int) (w : World) (hm : MB w b cnt F) :
    Calls Try.prog 15 #[.map (some b), .agg #[.int .i64 a, .int .i64 c], .int .i64 n, .int .i64 s] w fun e w' => ∃ v, e = .returned (.tuple #[v, .bool (bodyP F a c n s).isSome]) ∧ w'.ownsRow w.heap.size 5 1 v ((bodyP F a c n s).getD []).length (nums .u8 ((bodyP F a c n s).getD [])) ∧ Below w.heap.size w w' := by
  have CS := fun X => span_Right.calls a c _ X (span_right_eq a c)
  have CC := fun X => cuts_Right.calls n s _ X (right_eq n s)
  have CO := fun X => cuts_Of.calls a c s (cof a c s).1 (cof a c s).2 X (of_eq a c s)
  have CA := fun i hi h1 bo l hl X => add_calls w b cnt F a c n s i hi hm h1 bo l hl X
  have rnil : ∀ X : World, X.ownsRow w.heap.size 5 1 (.slice none 0 0) ([] : List Int).length (nums .u8 []) := fun X => own_nil _ _ _ _
  have h4 := blk_alloc (blk_alloc (blk_alloc (blk_new w (.cells #[.map (some b)] 27 (0, 0))) (.cells #[.int .i64 a, .int .i64 c] 31 (0, 0))) (.cells #[.int .i64 n] 3 (0, 0))) (.cells #[.int .i64 s] 3 (0, 0))
  have h5 := blk_alloc (blk_alloc (blk_new (w.alloc (.cells #[.map (some b)] 27 (0, 0))) (.cells #[.int .i64 a, .int .i64 c] 31 (0, 0))) (.cells #[.int .i64 n] 3 (0, 0))) (.cells #[.int .i64 s] 3 (0, 0))
  have h6 := blk_alloc (blk_new ((w.alloc (.cells #[.map (some b)] 27 (0, 0))).alloc (.cells #[.int .i64 a, .int .i64 c] 31 (0, 0))) (.cells #[.int .i64 n] 3 (0, 0))) (.cells #[.int .i64 s] 3 (0, 0))
  have h7 := blk_new (((w.alloc (.cells #[.map (some b)] 27 (0, 0))).alloc (.cells #[.int .i64 a, .int .i64 c] 31 (0, 0))).alloc (.cells #[.int .i64 n] 3 (0, 0))) (.cells #[.int .i64 s] 3 (0, 0))
  have hBA := below_alloc (below_alloc (below_alloc (below_alloc (Below.refl w.heap.size w) (.cells #[.map (some b)] 27 (0, 0))) (.cells #[.int .i64 a, .int .i64 c] 31 (0, 0))) (.cells #[.int .i64 n] 3 (0, 0))) (.cells #[.int .i64 s] 3 (0, 0))
  have hsz : ((((w.alloc (.cells #[.map (some b)] 27 (0, 0))).alloc (.cells #[.int .i64 a, .int .i64 c] 31 (0, 0))).alloc (.cells #[.int .i64 n] 3 (0, 0))).alloc (.cells #[.int .i64 s] 3 (0, 0))).heap.size = w.heap.size + 4 := by simp only [alloc_size]
  simp only [alloc_size] at h5 h6 h7
  rw [show w.heap.size + 1 + 1 = w.heap.size + 2 from rfl] at h6
  rw [show w.heap.size + 1 + 1 + 1 = w.heap.size + 3 from rfl] at h7
  obtain ⟨wA, hwA⟩ : ∃ X, (((w.alloc (.cells #[.map (some b)] 27 (0, 0))).alloc (.cells #[.int .i64 a, .int .i64 c] 31 (0, 0))).alloc (.cells #[.int .i64 n] 3 (0, 0))).alloc (.cells #[.int .i64 s] 3 (0, 0)) = X := ⟨_, rfl⟩
  rw [hwA] at h4 h5 h6 h7 hBA hsz
  have hS4 : ∀ X, Below wA.heap.size wA X → X.cell? ⟨w.heap.size + 1, 0, none⟩ = some (.int .i64 a) := fun X h => (blk_cell (blk_below h5 h) 0).trans rfl
  have hS5 : ∀ X, Below wA.heap.size wA X → X.cell? ⟨w.heap.size + 1, 1, none⟩ = some (.int .i64 c) := fun X h => (blk_cell (blk_below h5 h) 1).trans rfl
  have hS6 : ∀ X, Below wA.heap.size wA X → X.cell? ⟨w.heap.size + 2, 0, none⟩ = some (.int .i64 n) := fun X h => (blk_cell (blk_below h6 h) 0).trans rfl
  have hS7 : ∀ X, Below wA.heap.size wA X → X.cell? ⟨w.heap.size + 3, 0, none⟩ = some (.int .i64 s) := fun X h => (blk_cell (blk_below h7 h) 0).trans rfl
  replace CS := Aside0.mk CS
  replace CC := Aside0.mk CC
  replace CO := Aside0.mk CO
  replace CA := Aside0.mk CA
  replace rnil := Aside0.mk rnil
  replace h4 := Aside0.mk h4
  replace h5 := Aside0.mk h5
  replace h6 := Aside0.mk h6
  replace h7 := Aside0.mk h7
  replace hBA := Aside0.mk hBA
  replace hsz := Aside0.mk hsz
  have HW := Aside0.mk hwA
  clear hwA hm
  unfold bodyP
  by_cases k0 : SR a c
  case neg =>
    rw [decide_eq_false k0] at CS
    rw [if_neg (fun h => k0 h.1)]
    replace k0 := Aside0.mk k0
    go_enter Try.func15, Try.ntmps15
    go_wp2_with (first | (go_at_call 24; rw [HW.out]; refine (CS.out _).mono ?_; rintro e X1 ⟨rfl, hb1⟩))
    refine bodyPost_ret (results_tmp2 rfl _ _ _) rfl ?_
    exact ⟨_, rfl, rnil.out _, below_step hBA.out hb1⟩
  rw [decide_eq_true k0] at CS
  by_cases k1 : c ≤ n
  case neg =>
    have d1 : decide (c > n) = true := decide_eq_true (by omega)
    have d1' : decide (n < c) = true := decide_eq_true (by omega)
    rw [if_neg (fun h => k1 h.2.1)]
    replace k0 := Aside0.mk k0
    replace k1 := Aside0.mk k1
    go_enter Try.func15, Try.ntmps15
    go_wp2_with (first | (go_at_call 24; rw [HW.out]; refine (CS.out _).mono ?_; rintro e X1 ⟨rfl, hb1⟩))
    refine bodyPost_ret (results_tmp2 rfl _ _ _) rfl ?_
    exact ⟨_, rfl, rnil.out _, below_step hBA.out hb1⟩
  have d1 : decide (c > n) = false := decide_eq_false (by omega)
  have d1' : decide (n < c) = false := decide_eq_false (by omega)
  by_cases k2 : CR n s
  case neg =>
    rw [decide_eq_false k2] at CC
    rw [if_neg (fun h => k2 h.2.2)]
    replace k0 := Aside0.mk k0
    replace k1 := Aside0.mk k1
    replace k2 := Aside0.mk k2
    go_enter Try.func15, Try.ntmps15
    go_wp2_with (first | (go_at_call 24; rw [HW.out]; refine (CS.out _).mono ?_; rintro e X1 ⟨rfl, hb1⟩) | (go_at_call 21; refine (CC.out _).mono ?_; rintro e X2 ⟨rfl, hb2⟩))
    refine bodyPost_ret (results_tmp2 rfl _ _ _) rfl ?_
    exact ⟨_, rfl, rnil.out _, below_step (below_step hBA.out hb1) hb2.below⟩
  rw [decide_eq_true k2] at CC
  rw [if_pos ⟨k0, k1, k2⟩]
  have hcb := cof_bd a c n s k0 k1 k2
  have hhit := fun i h0 h1 (_ : hasP F n s i = true) => of_hits (i := i) k0 k1 k2 h0 h1
  generalize (cof a c s).1 = fr at CO hcb hhit ⊢
  generalize (cof a c s).2 = te at CO hcb hhit ⊢
  obtain ⟨hc0, hc1, hc2⟩ := hcb
  obtain ⟨res, hres⟩ : ∃ res, runB F a c n s (te - fr).toNat fr [] = res := ⟨_, rfl⟩
  rw [hres]
  replace hres := Aside0.mk hres
  replace hhit := Aside0.mk hhit
  replace k0 := Aside0.mk k0
  replace k1 := Aside0.mk k1
  replace k2 := Aside0.mk k2
  go_enter Try.func15, Try.ntmps15
  go_wp2_with (first | (go_at_call 24; rw [HW.out]; refine (CS.out _).mono ?_; rintro e X1 ⟨rfl, hb1⟩) | (go_at_call 21; refine (CC.out _).mono ?_; rintro e X2 ⟨rfl, hb2⟩; have hX2 := below_step hb1 hb2.below; have hX2' := below_alloc hX2 (.cells #[.slice none 0 0] 22 (0, 0))) | (go_at_call 29; refine (CO.out _).mono ?_; rintro e X3 ⟨rfl, hb3⟩))
  have hI0 : Inv w b a c n s X2.heap.size [] X3 := by
    refine Inv.below ⟨below_step hBA.out hX2', blk_below h4.out hX2', blk_below h5.out hX2', blk_below h6.out hX2', blk_below h7.out hX2', ?_, .slice none 0 0, blk_new _ _, own_nil _ _ _ _⟩ hb3
    have := hX2.size
    have := hsz.out
    omega
  replace hI0 := Aside0.mk hI0
  generalize X2.heap.size = bo at hI0 ⊢
  clear hb1 hb2 hX2 hX2' hb3 hS4 hS5 hS6 hS7 HW h4 h5 h6 h7 hBA hsz CS CC CO
  have eg := add_enters
  go_loopg [14] (te - fr).toNat (fun gg v14 wr => ∃ (i : Int) (acc : List Int), v14 = .int .i64 i ∧ fr ≤ i ∧ i ≤ te ∧ (te - i).toNat ≤ gg ∧ Aside0 (runB F a c n s (te - i).toNat i acc = res) ∧ (acc.length : Int) ≤ 4096 * (i - fr) ∧ Aside0 (Inv w b a c n s bo acc wr))
  case atStart => exact ⟨fr, [], rfl, by omega, by omega, by omega, hres, by simp, hI0⟩
  case round =>
    obtain ⟨i, acc, rfl, hi0, hi1, hgg, hrun, hacc, hI⟩ := hrel
    by_cases hlt : i < te
    · obtain ⟨d, hd⟩ : ∃ d, (te - i).toNat = d + 1 := ⟨(te - i).toNat - 1, by omega⟩
      rw [hd] at hrun
      have hw : (Lit.int .i64 i).wf = true := WalkArith.wf_i64 (by omega)
      have hc := CA.out i hw (hhit.out i hi0 hlt) bo acc (by omega) _ hI.out
      cases hP : hasP F n s i with
      | false =>
        rw [hP] at hc
        have hr := hrun.out
        rw [runB_none hP] at hr
        subst hr
        replace hc := Aside0.mk hc
        go_wp2_with (go_at_fn 25; refine hc.out.mono ?_; rintro e w' ⟨rfl, hI'⟩)
        refine bodyPost_ret (results_tmp2 rfl _ _ _) rfl ?_
        exact ⟨_, rfl, rnil.out _, hI'.hB⟩
      | true =>
        rw [hP, if_pos rfl] at hc
        have hr := hrun.out
        rw [runB_step hP] at hr
        have hpl := piece_le hP (hhit.out i hi0 hlt hP)
        replace hc := Aside0.mk hc
        go_wp2_with (go_at_fn 25; refine hc.out.mono ?_; rintro e w' ⟨rfl, hI'⟩)
        go_roundg (te - (i + 1)).toNat
        case measure => omega
        case rel => exact ⟨i + 1, _, by go_num, by omega, by omega, by omega, ⟨by rw [show (te - (i + 1)).toNat = d by omega]; exact hr⟩, by rw [List.length_append]; push_cast; omega, ⟨hI'⟩⟩
    · have : i = te := by omega
      subst this
      have hr := hrun.out
      rw [show (i - i).toNat = 0 by omega] at hr
      rw [runB] at hr
      subst hr
      obtain ⟨vo, hvo, hown⟩ := hI.out.ho
      have hq_ := (blk_cell hvo 0).trans rfl
      go_wp2
      refine bodyPost_ret (results_tmp2 rfl _ _ _) rfl ?_
      exact ⟨_, rfl, hown, hI.out.hB⟩
end Go.Proofs.Ytiecjkkjcdjndaa.Asm

namespace Go.Proofs.Ytiecjkkjcdjndaa.Asm
open Go Go.RowKit Go.Shelf Go.Proofs Go.Proofs.Ytiecjkkjcdjndaa.Xw Go.Proofs.Ytiecjkkjcdjndaa.PAll Go.Proofs.YtiecjkkjcdjndaaW.PrintWords Go.Proofs.YtiecjkkjcdjndaaW.PrintLast Go.Proofs.YtiecjkkjcdjndaaW.PrintMore Go.Proofs.Ytiecjkkjcdjndaa.Mp Go.Proofs.Ytiecjkkjcdjndaa.Pure
attribute [local go_sem] Oper.semAt_some
end Go.Proofs.Ytiecjkkjcdjndaa.Asm

namespace Go.Proofs.Ytiecjkkjcdjndaa.Asm
open Go Go.RowKit Go.Shelf Go.Proofs Go.Proofs.Ytiecjkkjcdjndaa.Xw Go.Proofs.Ytiecjkkjcdjndaa.PAll Go.Proofs.YtiecjkkjcdjndaaW.PrintWords Go.Proofs.YtiecjkkjcdjndaaW.PrintLast Go.Proofs.YtiecjkkjcdjndaaW.PrintMore Go.Proofs.Ytiecjkkjcdjndaa.Mp Go.Proofs.Ytiecjkkjcdjndaa.Pure
attribute [local go_sem] Oper.semAt_some
end Go.Proofs.Ytiecjkkjcdjndaa.Asm
namespace Go.Proofs.Ytiecjkkjcdjndaa.Pure
open Go.RowKit Go.Proofs.Ytiecjkkjcdjndaa.PAll Go.Proofs.YtiecjkkjcdjndaaW.PrintWords Go.Proofs.YtiecjkkjcdjndaaW.PrintLast Go.Proofs.YtiecjkkjcdjndaaW.PrintMore
theorem bytes_loop (l m : List Int) (hl : l.length = m.length) (hb : l.length ≤ 9223372036854775807) (d : Nat) : ∀ i : Int, 0 ≤ i → i ≤ l.length → (l.length : Int) - i = d → l.take i.toNat = m.take i.toNat →
    Ev (fun k => spenceref01_Bytes.l0 k l m l.length i) (decide (l = m)) := by
  induction d with
  | zero =>
    intro i h0 h1 hd ht
    refine Ev.pos (fun k => ?_)
    simp only [spenceref01_Bytes.l0]
    rw [List.take_of_length_le (by omega), List.take_of_length_le (by omega)] at ht
    rw [if_neg (by omega), decide_eq_true ht]
  | succ d ih =>
    intro i h0 h1 hd ht
    have hi : i < l.length := by omega
    have a1 : i.toNat < l.length := by omega
    have a2 : i.toNat < m.length := by omega
    have r1 : rd l i = l[i.toNat] := by simp [rd, a1]
    have r2 : rd m i = m[i.toNat] := by simp [rd, a2]
    by_cases he : l[i.toNat] = m[i.toNat]
    · refine Ev.step (fun k => ?_) (ih (i + 1) (by omega) (by omega) (by omega) ?_)
      · simp only [spenceref01_Bytes.l0, r1, r2]
        rw [if_pos hi, if_pos h0, if_pos hi, if_pos (by omega), if_pos he, wrap_id (by omega)]
      · have e : (i + 1).toNat = i.toNat + 1 := by omega
        rw [e, List.take_succ_eq_append_getElem a1, List.take_succ_eq_append_getElem a2, ht, he]
    · refine Ev.pos (fun k => ?_)
      have hne : ¬ l = m := fun h => he (by subst h; rfl)
      simp only [spenceref01_Bytes.l0, r1, r2]
      rw [if_pos hi, if_pos h0, if_pos hi, if_pos (by omega), if_neg he, decide_eq_false hne]
theorem bytes_ev (l m : List Int) (hb : l.length ≤ 9223372036854775807) : Ev (fun k => spenceref01_Bytes.f k l m) (decide (l = m)) := by
  unfold spenceref01_Bytes.f
  by_cases h : l.length = m.length
  · simp only [show (l.length : Int) = (m.length : Int) by omega, if_true]
    have := bytes_loop l m h hb l.length 0 (by omega) (by omega) (by omega) rfl
    rw [h] at this
    exact this
  · simp only [show ¬ (l.length : Int) = (m.length : Int) by omega, if_false]
    rw [decide_eq_false (fun e => h (by rw [e]))]
    exact Ev.now _
end Go.Proofs.Ytiecjkkjcdjndaa.Pure
namespace Go.Proofs.Ytiecjkkjcdjndaa.Asm
open Go Go.RowKit Go.Shelf Go.Proofs Go.Proofs.Ytiecjkkjcdjndaa.Xw Go.Proofs.Ytiecjkkjcdjndaa.PAll Go.Proofs.YtiecjkkjcdjndaaW.PrintWords Go.Proofs.YtiecjkkjcdjndaaW.PrintLast Go.Proofs.YtiecjkkjcdjndaaW.PrintMore Go.Proofs.Ytiecjkkjcdjndaa.Mp Go.Proofs.Ytiecjkkjcdjndaa.Pure
attribute [local go_sem] Oper.semAt_some
theorem below_turned {B b : Nat} {w W W' : World} (h : Below B w W) (hT : W.mapTurned W' b) (hB : B ≤ b) (hs : B ≤ W.heap.size) : Below B w W' := pw_below_grown h (some b) hs hT.grown (fun k hk => by cases hk; exact hB)
theorem row_marked (W : World) (xs : List Int) (fr : Nat × Nat) (hl : xs.length ≤ 1000000) : RowB (W.alloc (.cells (nums .u8 xs).toArray 5 fr)) (.slice (some ⟨W.heap.size, 0, none⟩) xs.length xs.length) xs := by
  refine ⟨_, _, rfl, Nat.le_refl _, rfl, by omega, fun _ => ⟨_, rfl, fun j p hp => ⟨[.int .u8 p], rfl, rfl, fun i u hu => ?_⟩⟩⟩
  have hc := cell_of_row (W.alloc (.cells (nums .u8 xs).toArray 5 fr)) W.heap.size j (nums .u8 xs).toArray 5 fr (blk_new W _)
  rw [add_plain]
  cases i with
  | zero =>
    obtain rfl : Value.int .u8 p = u := by simpa using hu
    rw [show j * (Kd.int .u8).sz + 0 = j by show j * 1 + 0 = j; omega, hc]
    simp [nums, hp]
  | succ i => simp at hu
set_option maxRecDepth 100000 in
set_option maxHeartbeats 4000000 in
theorem awake_calls (w : World) : Calls Try.prog 6 #[] w fun e w' => e = .returned (.bool true) ∧ Below w.heap.size w w' := by
  have hmk := @run_makeMap Try.prog
  have hb0 : bodyP (putF (putF (fun _ => none) 0 [65, 66]) 1 [67]) 1 3 3 2 = some [66, 67] := by kernel_rfl
  have hM0 := Aside0.mk (MapB.made Try.prog 3 w)
  have hB0 := Aside0.mk (below_alloc (Below.refl w.heap.size w) (.map #[] 0))
  have hr1 : RowB ((w.alloc (.map #[] 0)).alloc (.cells #[.int .u8 65, .int .u8 66] 5 (2, 3))) (.slice (some ⟨w.heap.size + 1, 0, none⟩) 2 2) [65, 66] := by
    have := row_marked (w.alloc (.map #[] 0)) [65, 66] (2, 3) (by decide)
    rw [alloc_size] at this
    exact this
  replace hr1 := Aside0.mk hr1
  have hcv1 := Lib.run_convert_bytes_const (P := Try.prog) (w.alloc (.map #[] 0)) 22 5 #[.int .u8 65, .int .u8 66] 2 2 Try.underlying22 Try.underlying5
  have hcv2 := fun W1 => Lib.run_convert_bytes_const (P := Try.prog) W1 22 5 #[.int .u8 67] 1 1 Try.underlying22 Try.underlying5
  rw [alloc_size] at hcv1
  have hs1 : (strOfNums [66, 67]) = ⟨#[66, 67]⟩ := by kernel_rfl
  go_enter Try.func6, Try.ntmps6
  go_wp2_with (first | (refine wpList_ins (l := [65, 66]) rfl _ _ _ 27 rfl Try.underlying3 Try.underlying27 (n := 0) (by decide) rfl (hM0.out.below (below_alloc (Below.refl _ _) _)) (i := 0) rfl (by decide) rfl hr1.out ?_; intro W1 hM1 hT1; have hB1 := Aside0.mk (below_turned (below_alloc hB0.out (.cells #[.int .u8 65, .int .u8 66] 5 (2, 3))) hT1 (Nat.le_refl _) (below_alloc hB0.out (.cells #[.int .u8 65, .int .u8 66] 5 (2, 3))).size); have hr2 : Aside0 (RowB (W1.alloc (.cells #[.int .u8 67] 5 (1, 2))) (.slice (some ⟨W1.heap.size, 0, none⟩) 1 1) [67]) := Aside0.mk (row_marked W1 [67] (1, 2) (by decide))) | (refine wpList_ins (l := [67]) rfl _ _ _ 27 rfl Try.underlying3 Try.underlying27 (n := 1) (by decide) rfl (hM1.below (below_alloc (Below.refl _ _) _)) (i := 1) rfl (by decide) rfl hr2.out ?_; intro W2 hM2 hT2; have hB2 := Aside0.mk (below_turned (below_alloc hB1.out (.cells #[.int .u8 67] 5 (1, 2))) hT2 (Nat.le_refl _) (below_alloc hB1.out (.cells #[.int .u8 67] 5 (1, 2))).size); have CB := body_calls _ _ _ 1 3 3 2 W2 hM2; rw [hb0] at CB; replace CB := Aside0.mk CB) | (go_at_call 15; refine CB.out.mono ?_; rintro e W3 ⟨v, rfl, hrow, hb⟩; obtain ⟨A, c, rfl, hl, hC⟩ := own_row hrow; have hcs : (convert 22 9 (.slice A 2 c)).run Try.prog W3 = .ok (.string ⟨#[66, 67]⟩) W3 := by (have h_ := Kd.C_string (P := Try.prog) (src := 22) (dst := 9) (c := c) Try.underlying22 Try.underlying5 Try.underlying9 hC; simp only [Option.getD_some] at h_; rw [hs1] at h_; exact h_)))
  go_ret
  exact ⟨by first | rfl | simp, below_step hB2.out hb⟩
end Go.Proofs.Ytiecjkkjcdjndaa.Asm
namespace Go.Proofs.Ytiecjkkjcdjndaa.Mp
open Go Go.Maps Go.WideElems Go.RowKit Go.Proofs.YtiecjkkjcdjndaaW.PrintWords
variable {P : Program} {k : TypeId} {w : World} {b r n cnt : Nat} {f : Int → Option Value} {lf : Int → Bool}
/-- a loop over a map under way: lf: which keys are still to come -/
def RngV (P : Program) (k : TypeId) (w : World) (b r n : Nat) (f : Int → Option Value) (lf : Int → Bool) (cnt : Nat) : Prop :=
  ∃ (D : DataW Value) (left : Lit → Bool), w.ranges P k rawR b r n D left cnt ∧ (∀ i : Int, (Lit.int .i64 i).wf = true → Maps.has D (.int .i64 i) = (f i).isSome ∧ ∀ z : Value, D.atKey (.int .i64 i) (.held z) = .held ((f i).getD z)) ∧ ∀ i : Int, (Lit.int .i64 i).wf = true → left (.int .i64 i) = lf i
theorem RngV.kept {w' : World} {row : Option Nat} (h : RngV P k w b r n f lf cnt) (hg : w.grownBy w' row) (h1 : some b ≠ row) (h2 : some r ≠ row) : RngV P k w' b r n f lf cnt := by
  obtain ⟨D, left, h3, h4, h5⟩ := h
  exact ⟨D, left, h3.kept hg h1 h2, h4, h5⟩
theorem RngV.below {w' : World} (h : RngV P k w b r n f lf cnt) (hb : Below w.heap.size w w') : RngV P k w' b r n f lf cnt := h.kept (grown_of_below hb none) (by simp) (by simp)
theorem RngV.lt (h : RngV P k w b r n f lf cnt) : r < w.heap.size ∧ b < w.heap.size ∧ r ≠ b := by
  obtain ⟨D, left, h1, _⟩ := h
  exact ⟨h1.lt, h1.owns.lt, h1.ne⟩
theorem RngV.cell {w' : World} (h : RngV P k w b r n f lf cnt) (hg : w.grownBy w' (some r)) {a : Addr} {v : Value} (hc : w.cell? a = some v) : w'.cell? a = some v := by
  obtain ⟨D, left, ⟨es, clock, since, seen, c0, _, _, _, _, hr, _⟩, _, _⟩ := h
  refine hg.cell hc (fun e => ?_)
  have e : a.block = r := Option.some.inj e
  unfold World.cell? at hc
  rw [e, hr] at hc
  cases hc
theorem sameKey_int (i j : Int) : (Lit.int .i64 i).sameKey (.int .i64 j) = decide (i = j) := by
  by_cases e : i = j
  · subst e
    rw [decide_eq_true rfl]
    simp [Lit.sameKey]
  · rw [decide_eq_false e]
    simp [Lit.sameKey, e]
section
variable {ops : Array Oper} {rest : List Oper} {o : Oper} {a : Act} {Q : Exit → Act → World → Prop} {W : World}
theorem wpList_rng (hg : o.guard = none) (m : Operand) (t : TypeId) (hop : o.op = Op.range t m) {e : TypeId} (hk : P.underlying k = some (.int .i64)) (ht : P.underlying t = some (.map k e))
    (hm : a.eval m = .map (some b)) (h : MapV P k W b n f)
    (hK : ∀ w' cnt, cnt ≤ n → RngV P k w' b W.heap.size n f (fun i => (f i).isSome) cnt → Below W.heap.size W w' → w'.heap.size = W.heap.size + 1 → wpList P ops Q rest (a.put o.dst (.pointer (some ⟨W.heap.size, 0, none⟩))) w') :
    wpList P ops Q (o :: rest) a W := by
  obtain ⟨D, h1, h2⟩ := h
  refine wpList_range_own W hg m t hop k e (int_keyed hk) ht rawR b n D hm h1 (fun w' hr hgr hs => ?_)
  exact hK w' _ h1.size_le ⟨D, Maps.has D, hr, h2, fun i hi => (h2 i hi).1⟩ ⟨hgr.os, hgr.tape, hgr.output, hgr.size, fun j hj => hgr.block j hj (by simp)⟩ hs
theorem wpList_nxt (hg : o.guard = none) (it : Operand) (hop : o.op = Op.next it false) (hk : P.underlying k = some (.int .i64)) (hit : a.eval it = .pointer (some ⟨r, 0, none⟩)) (h : RngV P k W b r n f lf cnt)
    (hDone : cnt = 0 → (∀ i : Int, (Lit.int .i64 i).wf = true → lf i = false) → wpList P ops Q rest (a.put o.dst (.tuple #[.bool false])) W)
    (hMore : ∀ (x : Int) (v : Value) (w' : World) (cnt' : Nat), (Lit.int .i64 x).wf = true → lf x = true → f x = some v → RngV P k w' b r n f (fun i => lf i && !decide (i = x)) cnt' → cnt' < cnt → W.grownBy w' (some r) → w'.heap.size = W.heap.size →
      (Instr.entry (.pointer (some ⟨r, 0, none⟩))).run P w' = .ok (.tuple #[.int .i64 x, v]) w' → wpList P ops Q rest (a.put o.dst (.tuple #[.bool true, .int .i64 x, v])) w') :
    wpList P ops Q (o :: rest) a W := by
  obtain ⟨D, left, h1, h2, h3⟩ := h
  refine wpList_next_ranges W hg it hop k (int_keyed hk) rawR (Value.int .i64) (fun v : Value => v) (fun key kl hkey => by obtain ⟨x, rfl, _⟩ := Maps.keyOf_int_inv hk hkey; exact ⟨x, rfl⟩) (fun v y _ => ⟨v, rfl⟩) b r n D left cnt hit h1
    (fun h0 hl => hDone h0 (fun i hi => by rw [← h3 i hi, hl])) (fun x v kl y w' cnt' hkey hlk hv hat hrg hlt hgr hsz hen => ?_)
  obtain ⟨x', ex, rfl, hwx⟩ := Maps.keyOf_int_inv hk hkey
  cases ex
  simp only [rawR, Option.some.injEq] at hv
  subst hv
  have hhas : Maps.has D (.int .i64 x) = true := Maps.has_true_of_atKey hat
  have hfx : f x = some v := by
    obtain ⟨e1, e2⟩ := h2 x hwx
    rw [hhas] at e1
    have e3 := e2 (.bool true)
    rw [hat] at e3
    simp only [DataW.held.injEq] at e3
    cases hf : f x with
    | none => rw [hf] at e1; cases e1
    | some u => rw [hf] at e3; rw [e3]; rfl
  exact hMore x v w' cnt' hwx (by rw [← h3 x hwx]; exact hlk) hfx ⟨D, _, hrg, h2, fun i hi => by
    show (left (.int .i64 i) && !(Lit.int .i64 i).sameKey (.int .i64 x)) = _
    rw [h3 i hi, sameKey_int]⟩ hlt hgr hsz hen
end
/-- every key of such a map is an int -/
theorem keys_int (hk : P.underlying k = some (.int .i64)) {D : DataW Value} (h : w.ownsMap P k rawR b n D) {kl : Lit} (hh : Maps.has D kl = true) : ∃ i, kl = .int .i64 i ∧ (Lit.int .i64 i).wf = true := by
  obtain ⟨es, clock, _, F, _, rfl⟩ := h
  obtain ⟨p, hp, hpk⟩ := List.any_eq_true.1 hh
  obtain ⟨x, hx, rfl⟩ := List.mem_map.1 (mem_sorted.1 hp)
  obtain ⟨y, hy⟩ := F.reads x hx
  have e := WideAt.sameKey_eq hpk
  rw [rg_of hy] at e
  have hkey := rd_key hy
  obtain ⟨i, _, e2, hw⟩ := Maps.keyOf_int_inv hk hkey
  exact ⟨i, by rw [← e]; exact e2, hw⟩
theorem canon_mem {D : DataW Value} {es : List (Lit × DataW Value)} (hD : D = .map es) (hkey : ∀ p ∈ es, WideAt.IsKeyLit p.1) (kl : Lit) : Maps.has D kl = true ↔ ∃ p ∈ es, p.1 = kl := by
  subst hD
  constructor
  · intro h
    obtain ⟨p, hp, hpk⟩ := List.any_eq_true.1 h
    exact ⟨p, hp, WideAt.sameKey_eq hpk⟩
  · rintro ⟨p, hp, rfl⟩
    exact List.any_eq_true.2 ⟨p, hp, WideAt.sameKey_self (hkey p hp)⟩
theorem size_same (hk : P.underlying k = some (.int .i64)) {w1 w2 : World} {b1 b2 n1 n2 : Nat} {D1 D2 : DataW Value} (h1 : w1.ownsMap P k rawR b1 n1 D1) (h2 : w2.ownsMap P k rawR b2 n2 D2)
    (hh : ∀ i : Int, (Lit.int .i64 i).wf = true → Maps.has D1 (.int .i64 i) = Maps.has D2 (.int .i64 i)) : Maps.size D1 = Maps.size D2 := by
  obtain ⟨es1, e1, s1, k1⟩ := h1.canon (int_keyed hk)
  obtain ⟨es2, e2, s2, k2⟩ := h2.canon (int_keyed hk)
  have hall : ∀ kl, Maps.has D1 kl = true ↔ Maps.has D2 kl = true := fun kl => by
    constructor
    · intro h
      obtain ⟨i, rfl, hi⟩ := keys_int hk h1 h
      rw [← hh i hi]; exact h
    · intro h
      obtain ⟨i, rfl, hi⟩ := keys_int hk h2 h
      rw [hh i hi]; exact h
  have key : es1.map (fun p => (p.1, (DataW.nil : DataW Value))) = es2.map (fun p => (p.1, (DataW.nil : DataW Value))) := by
    refine eq_of_mem_rising (List.pairwise_map.2 s1) (List.pairwise_map.2 s2) (fun p => ?_)
    simp only [List.mem_map]
    constructor
    · rintro ⟨q, hq, rfl⟩
      obtain ⟨q2, hq2, e⟩ := (canon_mem e2 k2 q.1).1 ((hall q.1).1 ((canon_mem e1 k1 q.1).2 ⟨q, hq, rfl⟩))
      exact ⟨q2, hq2, by rw [e]⟩
    · rintro ⟨q, hq, rfl⟩
      obtain ⟨q2, hq2, e⟩ := (canon_mem e1 k1 q.1).1 ((hall q.1).2 ((canon_mem e2 k2 q.1).2 ⟨q, hq, rfl⟩))
      exact ⟨q2, hq2, by rw [e]⟩
  have := congrArg List.length key
  simp only [List.length_map] at this
  rw [e1, e2]
  exact this
end Go.Proofs.Ytiecjkkjcdjndaa.Mp
namespace Go.Proofs.Ytiecjkkjcdjndaa.Asm
open Go Go.RowKit Go.Shelf Go.Proofs Go.Proofs.Ytiecjkkjcdjndaa.Xw Go.Proofs.Ytiecjkkjcdjndaa.PAll Go.Proofs.YtiecjkkjcdjndaaW.PrintWords Go.Proofs.YtiecjkkjcdjndaaW.PrintLast Go.Proofs.YtiecjkkjcdjndaaW.PrintMore Go.Proofs.Ytiecjkkjcdjndaa.Mp Go.Proofs.Ytiecjkkjcdjndaa.Pure
attribute [local go_sem] Oper.semAt_some
abbrev PC := S49
def addP (F : Int → Option (List Int)) (l : List PC) : Int → Option (List Int) := l.foldl (fun F p => putF F p.f2 p.f3) F
theorem addP_snoc (F : Int → Option (List Int)) (l : List PC) (p : PC) : addP F (l ++ [p]) = putF (addP F l) p.f2 p.f3 := by unfold addP; rw [List.foldl_append]; rfl
/-- short enough to be copied -/
def Short (l : List Int) : Prop := l.length < 140737488355328
theorem clone_row (A : Option Addr) (c : Nat) (l : List Int) (hs : Short l) (w : World) (h : (Kd.int .u8).C w A l.length l) (hc : l.length ≤ c) : Calls Try.prog 30 #[.slice A l.length c] w fun e w' => ∃ v, e = .returned v ∧ RowB w' v l ∧ Below w.heap.size w w' := by
  refine (bytes_Clone.calls A c l l w h hc (by unfold bytes_Clone.f; rw [Option.bind_some, if_pos (by unfold Short at hs; simpa using hs)]; rfl)).mono ?_
  rintro e w' ⟨v, rfl, hR, hb⟩
  obtain ⟨A1, c1, rfl, hl, hC⟩ := Kd.R_reads hR
  exact ⟨_, rfl, ⟨A1, c1, rfl, hl, hC⟩, hb⟩
theorem below_map {B b : Nat} {w W W' : World} (h : Below B w W) (hT : W.mapTurned W' b) (hB : B ≤ b) : Below B w W' := by
  have hg := hT.grown
  exact ⟨hg.os.trans h.os, hg.tape.trans h.tape, hg.output.trans h.output, Nat.le_trans h.size hg.size, fun g hlt => by
    by_cases hgs : g < W.heap.size
    · exact (hg.block g hgs (fun e => by cases e; omega)).trans (h.block g hlt)
    · have h2 := h.block g hlt
      have e1 : W.heap[g]? = none := Array.getElem?_eq_none (by omega)
      have e2 : W'.heap.size = W.heap.size := by obtain ⟨_, _, _, _, _, rfl⟩ := hT; simp [Go.ChangeMaps.setBlock]
      rw [Array.getElem?_eq_none (show W'.heap.size ≤ g by omega), ← h2, e1]⟩
theorem KeepO.of_below {w X : World} {bo : Nat} {row : Option Nat} (h : Below w.heap.size w X) : KeepO w bo row X := ⟨h.size, fun g hg _ _ => h.block g hg, h.os, h.tape, h.output⟩
theorem KeepO.turned {w X Y : World} {b : Nat} {row : Option Nat} (h : KeepO w b row X) (hT : X.mapTurned Y b) : KeepO w b row Y := by
  have hg := hT.grown
  exact ⟨Nat.le_trans h.size hg.size, fun g hlt h1 h2 => (hg.block g (Nat.lt_of_lt_of_le hlt h.size) (by simpa using h1)).trans (h.block g hlt h1 h2), hg.os.trans h.os, hg.tape.trans h.tape, hg.output.trans h.output⟩
theorem wp_put {P : Program} {o : Oper} {a : Act} {w w1 : World} {K : Act → World → Prop} {Q : Exit → Act → World → Prop} {m x v : Operand} {t : TypeId} {mv kv u : Value} (ho : o.op = .mapUpdate t m x v)
    (hm : a.eval m = mv) (hx : a.eval x = kv) (hv : a.eval v = u) (hrun : (Instr.mapUpdate t mv kv u).run P w = .ok () w1) (hK : K (a.put o.dst undef) w1) : Oper.wp P o a w K Q := by
  unfold Oper.wp
  simp [execOp, ho, hm, hx, hv, hrun, Result.andThen]
  exact hK
set_option linter.unusedSimpArgs false in
set_option linter.unusedVariables false in
set_option maxRecDepth 100000 in
set_option maxHeartbeats 8000000 in
theorem add_nil (A : Option Addr) (c : Nat) (l : List PC) (hlen : l.length ≤ 1000) (w : World) (hC : k49.C w A l.length l) (hsl : ∀ p ∈ l, Short p.f3 ∧ (Lit.int .i64 p.f2).wf = true) :
    Calls Try.prog 17 #[.map none, .slice A l.length c] w fun e w' => ∃ b, e = .returned (.map (some b)) ∧ ∃ cnt, MB w' b cnt (addP (fun _ => none) l) ∧ cnt ≤ l.length ∧ Below w.heap.size w w' := by
  have hmm := @run_makeMap Try.prog
  have hrg := run_range_nilMap (P := Try.prog) (w.alloc (.map #[] 0)) 27 3 22 Try.underlying27
  have hnx : ∀ ty, (Instr.next (.pointer (some ⟨(w.alloc (.map #[] 0)).heap.size, 0, none⟩)) false ty).run Try.prog ((w.alloc (.map #[] 0)).alloc (.mapIter none 0 #[] 0)) = _ := fun ty => run_next_nilMap _ ty 0 0 #[]
  rw [alloc_size] at hrg hnx
  have hM0 := Aside0.mk ((MapB.made Try.prog 3 w).below (below_alloc (Below.refl _ _) (.mapIter none 0 #[] 0)))
  have hB0 := Aside0.mk (below_alloc (below_alloc (Below.refl w.heap.size w) (.map #[] 0)) (.mapIter none 0 #[] 0))
  replace hC := Aside0.mk hC
  replace hsl := Aside0.mk hsl
  obtain ⟨F, hF⟩ : ∃ F : Int → Option (List Int), (fun _ => none) = F := ⟨_, rfl⟩
  rw [hF] at hM0 ⊢
  clear hF
  obtain ⟨N0, hN0⟩ : ∃ N0 : Nat, N0 = 0 := ⟨_, rfl⟩
  have hN : Aside0 (N0 = 0) := ⟨hN0⟩
  have hN1 : N0 ≤ 0 := by omega
  clear hN0
  go_enter Try.func17, Try.ntmps17
  go_wp2
  refine wp_loop_rounds 1 ?_
  rw [rounds_succ]
  go_wp2
  go_loopg [24] l.length (fun gg v24 wr => ∃ j : Nat, v24 = .int .i64 j ∧ j ≤ l.length ∧ l.length - j ≤ gg ∧ (∃ cnt', MB wr w.heap.size cnt' (addP F (l.take j)) ∧ cnt' ≤ N0 + j) ∧ Aside0 (Below w.heap.size w wr))
  case atStart => exact ⟨0, rfl, Nat.zero_le _, by omega, ⟨_, by rw [List.take_zero]; exact hM0.out, by omega⟩, hB0⟩
  case round =>
    obtain ⟨j, rfl, hj, hgg, ⟨cnt', hM, hcnt⟩, hB⟩ := hrel
    by_cases hlt : j < l.length
    · have hltz : (j : Int) < (l.length : Int) := by omega
      obtain ⟨ad, A3, c3, eA, hx0, hx1, hx2, hx3, hl3, hC3⟩ := at_T49 (Kd.C_below hC.out hB.out) (j : Int) (by omega) (by omega)
      cases eA
      simp only [Int.toNat_natCast] at hx0 hx1 hx2 hx3
      have hget : l[j]? = some (rd_T49 l (j : Int)) := by simp [rd_T49, hlt]
      have hmem := List.mem_of_getElem? hget
      have hsx := Aside0.mk (hsl.out _ hmem).1
      have hwx := Aside0.mk (hsl.out _ hmem).2
      have htake : addP F (l.take (j + 1)) = putF (addP F (l.take j)) (rd_T49 l (j : Int)).f2 (rd_T49 l (j : Int)).f3 := by
        rw [List.take_succ_eq_append_getElem hlt, addP_snoc]
        simp [rd_T49, hlt]
      clear hget hmem
      generalize rd_T49 l (j : Int) = x at hx0 hx1 hx2 hx3 hl3 hC3 hsx hwx htake
      replace htake := Aside0.mk htake
      replace hM := Aside0.mk hM
      have hcl : Aside0 (cnt' < maxLen) := ⟨by simp only [maxLen]; omega⟩
      have hzb := below_alloc (Below.refl _ wr) (.cells #[.int .i64 x.f0, .int .i64 x.f1, .int .i64 x.f2, .slice A3 x.f3.length c3] 49 (0, 0))
      have hBZ := Aside0.mk (below_step hB.out hzb)
      have hMZ := Aside0.mk (hM.out.below hzb)
      replace hC3 := Aside0.mk (Kd.C_below hC3 hzb)
      replace hl3 := Aside0.mk hl3
      have hZn := Aside0.mk (blk_new wr (.cells #[.int .i64 x.f0, .int .i64 x.f1, .int .i64 x.f2, .slice A3 x.f3.length c3] 49 (0, 0)))
      clear hzb
      go_wp2
      rename_i Kz hKz
      replace hKz := Aside0.mk hKz
      clear hx0 hx1 hx2 hx3
      have hgp : wr.heap.size ≠ w.heap.size := fun e => by have := hM.out.lt; omega
      obtain ⟨Z, hZe⟩ : ∃ Z, wr.alloc (.cells #[.int .i64 x.f0, .int .i64 x.f1, .int .i64 x.f2, .slice A3 x.f3.length c3] 49 (0, 0)) = Z := ⟨_, rfl⟩
      rw [hZe] at hZn hBZ hMZ hC3 ⊢
      clear hZe hM
      generalize wr.heap.size = gp at hZn hgp ⊢
      have hS2 : ∀ X, KeepO Z w.heap.size none X → X.cell? ⟨gp, 2, none⟩ = some (.int .i64 x.f2) := fun X h => h.cell ((blk_cell hZn.out 2).trans rfl) hgp (by simp)
      have hS3 : ∀ X, KeepO Z w.heap.size none X → X.cell? ⟨gp, 3, none⟩ = some (.slice A3 x.f3.length c3) := fun X h => h.cell ((blk_cell hZn.out 3).trans rfl) hgp (by simp)
      replace hgp := Aside0.mk hgp
      have hXb := Aside0.mk (below_drew (Below.refl Z.heap.size Z))
      have hX := Aside0.mk (KeepO.of_below (bo := w.heap.size) (row := none) hXb.out)
      refine wp_region_noPanic ?_
      refine wp_region_held_drew (S := fun X => KeepO Z w.heap.size none X) (by kernel_rfl) hX.out (fun hHeld => ?_)
      refine wpAnyH_take (i := 0) (oi := { dst := some 28, op := Go.Op.move (Go.Operand.tmp 5), type := 27, pos := "assemble.go:23", after := #[], guard := none }) (v := ?_) rfl (by kernel_rfl) (by kernel_rfl) (by kernel_rfl) (fun _ _ _ h => h) (Or.inl ⟨by kernel_rfl, ?_⟩) (by assumption) ?_
      rotate_left
      · intro W hSw; go_simp; first | done | with_reducible rfl
      try simp only [Act.put, List.setIfInBounds_toArray, List.set_cons_zero, List.set_cons_succ]
      refine wpAnyH_take (i := 1) (oi := { dst := some 29, op := Go.Op.fieldAddr 49 (Go.Operand.tmp 9) 2, type := 0, pos := "assemble.go:23", after := #[], guard := none }) (v := ?_) rfl (by kernel_rfl) (by kernel_rfl) (by kernel_rfl) (fun _ _ _ h => h) (Or.inl ⟨by kernel_rfl, ?_⟩) (by assumption) ?_
      rotate_left
      · intro W hSw; go_simp; first | done | with_reducible rfl
      try simp only [Act.put, List.setIfInBounds_toArray, List.set_cons_zero, List.set_cons_succ]
      refine wpAnyH_take (i := 2) (oi := { dst := some 30, op := Go.Op.load 3 (Go.Operand.tmp 29), type := 3, pos := "assemble.go:23", after := #[{ on := 1, ground := Go.Ground.data }], guard := none }) (v := ?_) rfl (by kernel_rfl) (by kernel_rfl) (by kernel_rfl) (fun _ _ _ h => h) (Or.inl ⟨by kernel_rfl, ?_⟩) (by assumption) ?_
      rotate_left
      · intro W hSw; go_simp; first | done | with_reducible rfl
      try simp only [Act.put, List.setIfInBounds_toArray, List.set_cons_zero, List.set_cons_succ]
      refine wpAnyH_take (i := 3) (oi := { dst := some 31, op := Go.Op.fieldAddr 49 (Go.Operand.tmp 9) 3, type := 0, pos := "assemble.go:23", after := #[], guard := none }) (v := ?_) rfl (by kernel_rfl) (by kernel_rfl) (by kernel_rfl) (fun _ _ _ h => h) (Or.inl ⟨by kernel_rfl, ?_⟩) (by assumption) ?_
      rotate_left
      · intro W hSw; go_simp; first | done | with_reducible rfl
      try simp only [Act.put, List.setIfInBounds_toArray, List.set_cons_zero, List.set_cons_succ]
      refine wpAnyH_take (i := 4) (oi := { dst := some 32, op := Go.Op.load 22 (Go.Operand.tmp 31), type := 22, pos := "assemble.go:23", after := #[{ on := 3, ground := Go.Ground.data }], guard := none }) (v := ?_) rfl (by kernel_rfl) (by kernel_rfl) (by kernel_rfl) (fun _ _ _ h => h) (Or.inl ⟨by kernel_rfl, ?_⟩) (by assumption) ?_
      rotate_left
      · intro W hSw; go_simp; first | done | with_reducible rfl
      try simp only [Act.put, List.setIfInBounds_toArray, List.set_cons_zero, List.set_cons_succ]
      refine wpAnyH_ready (rs := [5]) (by kernel_rfl) (by simp) ?_
      refine AllReadyH.cons (o := { dst := some 33, op := Go.Op.call { callee := Go.Callee.value (Go.Operand.func 30), args := #[Go.Operand.tmp 32], argTypes := #[22] }, type := 22, pos := "assemble.go:23", after := #[{ on := 4, ground := Go.Ground.data }], guard := none }) rfl (fun K hK => ?_) AllReadyH.nil
      refine goes_ (N := some 33) («as» := #[.tmp 32]) Try.func30 (by kernel_rfl) rfl #[.slice A3 x.f3.length c3] (by kernel_rfl) rfl rfl (by kernel_rfl) ?_
      refine (clone_row A3 c3 x.f3 hsx.out _ (Kd.C_below hC3.out hXb.out) hl3.out).mono ?_
      rintro e Y ⟨v, rfl, hv, hb⟩
      refine ⟨_, rfl, ?_⟩
      have hYb := Aside0.mk (below_step hXb.out hb)
      have hX1 := Aside0.mk (KeepO.of_below (bo := w.heap.size) (row := none) hYb.out)
      replace hv := Aside0.mk hv
      clear hb
      refine hK.out _ _ ?_ (fun hHeld => ?_)
      · exact hX1.out
      clear hK K
      try simp only [Act.put, List.setIfInBounds_toArray, List.set_cons_zero, List.set_cons_succ]
      refine wpAnyH_ready (rs := [6]) (by kernel_rfl) (by simp) ?_
      refine AllReadyH.cons (o := { dst := none, op := Go.Op.mapUpdate 27 (Go.Operand.tmp 28) (Go.Operand.tmp 30) (Go.Operand.tmp 33), type := 0, pos := "assemble.go:23", after := #[{ on := 0, ground := Go.Ground.data }, { on := 2, ground := Go.Ground.data }, { on := 5, ground := Go.Ground.data }, { on := 5, ground := Go.Ground.chain }, { on := 0, ground := Go.Ground.phase }, { on := 1, ground := Go.Ground.phase }, { on := 2, ground := Go.Ground.phase }, { on := 3, ground := Go.Ground.phase }, { on := 4, ground := Go.Ground.phase }, { on := 5, ground := Go.Ground.phase }], guard := none }) rfl (fun K hK => ?_) AllReadyH.nil
      obtain ⟨W1, hrun, hM1, hT1⟩ := (hMZ.out.below hYb.out).store Try.underlying3 Try.underlying27 hcl.out hwx.out hv.out
      rw [if_pos (by first | rfl | kernel_rfl)]
      refine wp_put rfl rfl rfl rfl hrun ?_
      have hX2 := Aside0.mk (hX1.out.turned hT1)
      refine hK.out _ _ ?_ (fun hHeld => ?_)
      · exact hX2.out
      clear hK K
      try simp only [Act.put, List.setIfInBounds_toArray, List.set_cons_zero, List.set_cons_succ]
      refine wpAnyH_done (by kernel_rfl) ?_ _
      try simp only [Act.put, List.setIfInBounds_toArray, List.set_cons_zero, List.set_cons_succ, List.getElem_toArray, List.getElem_cons_zero, List.getElem_cons_succ]
      refine NoPanic.normal ?_
      (try dsimp only [Exit.then])
      refine hKz.out _ _ ?_
      have hBW := Aside0.mk (below_map (below_step hBZ.out hYb.out) hT1 (Nat.le_refl _))
      clear hHeld hrun hS2 hS3
      go_wp2
      go_roundg (l.length - (j + 1))
      case measure => omega
      case rel => exact ⟨j + 1, by go_num, by omega, by omega, ⟨_, by rw [htake.out]; exact hM1, by omega⟩, hBW⟩
    · have hjl : j = l.length := by omega
      subst hjl
      have hltz : ¬ (l.length : Int) < (l.length : Int) := by omega
      rw [List.take_length] at hM
      go_wp2
      go_ret
      exact ⟨_, rfl, cnt', hM, by omega, hB.out⟩
set_option linter.unusedSimpArgs false in
set_option linter.unusedVariables false in
set_option maxRecDepth 100000 in
set_option maxHeartbeats 8000000 in
theorem add_map (bm n0 : Nat) (F : Int → Option (List Int)) (A : Option Addr) (c : Nat) (l : List PC) (hlen : l.length ≤ 1000) (hn0 : n0 ≤ 1000) (w : World) (hm : MB w bm n0 F) (hFw : ∀ i, F i ≠ none → (Lit.int .i64 i).wf = true) (hFs : ∀ i m, F i = some m → Short m) (hC : k49.C w A l.length l) (hsl : ∀ p ∈ l, Short p.f3 ∧ (Lit.int .i64 p.f2).wf = true) :
    Calls Try.prog 17 #[.map (some bm), .slice A l.length c] w fun e w' => ∃ b, e = .returned (.map (some b)) ∧ ∃ cnt, MB w' b cnt (addP F l) ∧ cnt ≤ n0 + l.length ∧ Below w.heap.size w w' := by
  have hmm := @run_makeMap Try.prog
  obtain ⟨f, hV, hf0, hf1⟩ := hm
  have hbl := hV.lt
  have hM0 := Aside0.mk (MapB.made Try.prog 3 w)
  have hB0 := Aside0.mk (below_alloc (Below.refl w.heap.size w) (.map #[] 0))
  replace hV := Aside0.mk hV
  replace hf0 := Aside0.mk hf0
  replace hf1 := Aside0.mk hf1
  replace hFw := Aside0.mk hFw
  replace hFs := Aside0.mk hFs
  replace hC := Aside0.mk hC
  replace hsl := Aside0.mk hsl
  obtain ⟨N0, hN0⟩ : ∃ N0 : Nat, n0 = N0 := ⟨_, rfl⟩
  rw [hN0] at hV hn0 ⊢
  clear hN0
  go_enter Try.func17, Try.ntmps17
  go_wp2_with (first | (at_range; refine wpList_rng rfl _ 27 rfl Try.underlying3 Try.underlying27 rfl (hV.out.below (below_alloc (Below.refl _ _) _)) ?_; intro w0 cnt0 hc0 hr0 hb0 hs0))
  go_frame
  rw [alloc_size] at hr0 hs0
  have hM1 := (hM0.out.below hb0)
  have hBw := Aside0.mk (below_step hB0.out hb0)
  have e0 : (fun i => if (f i).isSome = true then none else F i) = fun _ => (none : Option (List Int)) := by
    funext i
    cases hFi : F i with
    | none => split <;> rfl
    | some m => obtain ⟨v, hv, _⟩ := hf1.out i m hFi; rw [hv]; rfl
  rw [← e0] at hM1
  replace hM1 := Aside0.mk hM1
  replace hr0 := Aside0.mk hr0
  clear hb0 hs0 e0 hM0 hB0 hmm
  rw [alloc_size]
  go_loopg [6] cnt0 (fun gg v6 wr => ∃ (lf : Int → Bool) (cnt k1 : Nat), cnt ≤ gg ∧ k1 + cnt ≤ N0 ∧ Aside0 (RngV Try.prog 3 wr bm (w.heap.size + 1) N0 f lf cnt) ∧ Aside0 (MB wr w.heap.size k1 (fun i => if lf i = true then none else F i)) ∧ Aside0 (Below w.heap.size w wr))
  case atStart => exact ⟨_, cnt0, 0, Nat.le_refl _, by omega, hr0, hM1, hBw⟩
  case round =>
    obtain ⟨lf, cnt, k1, hcg, hkc, hrg, hM, hB⟩ := hrel
    go_wp2_with (first | (at_next; refine wpList_nxt rfl _ rfl Try.underlying3 rfl hrg.out ?_ ?_))
    · intro hc0' hl0
      have hMF := hM.out
      rw [show (fun i => if lf i = true then none else F i) = F from by
        funext i
        cases hFi : F i with
        | none => split <;> rfl
        | some m => rw [hl0 i (hFw.out i (by rw [hFi]; simp))]; rfl] at hMF
      replace hMF := Aside0.mk hMF
      clear hl0 hM hrg hc0'
      have hk1 : k1 ≤ N0 := by omega
      go_wp2
      go_loopg [24] l.length (fun gg v24 wr => ∃ j : Nat, v24 = .int .i64 j ∧ j ≤ l.length ∧ l.length - j ≤ gg ∧ (∃ cnt', MB wr w.heap.size cnt' (addP F (l.take j)) ∧ cnt' ≤ N0 + j) ∧ Aside0 (Below w.heap.size w wr))
      case atStart => exact ⟨0, rfl, Nat.zero_le _, by omega, ⟨_, by rw [List.take_zero]; exact hMF.out, by omega⟩, hB⟩
      case round =>
        obtain ⟨j, rfl, hj, hgg, ⟨cnt', hM, hcnt⟩, hB⟩ := hrel
        by_cases hlt : j < l.length
        · have hltz : (j : Int) < (l.length : Int) := by omega
          obtain ⟨ad, A3, c3, eA, hx0, hx1, hx2, hx3, hl3, hC3⟩ := at_T49 (Kd.C_below hC.out hB.out) (j : Int) (by omega) (by omega)
          cases eA
          simp only [Int.toNat_natCast] at hx0 hx1 hx2 hx3
          have hget : l[j]? = some (rd_T49 l (j : Int)) := by simp [rd_T49, hlt]
          have hmem := List.mem_of_getElem? hget
          have hsx := Aside0.mk (hsl.out _ hmem).1
          have hwx := Aside0.mk (hsl.out _ hmem).2
          have htake : addP F (l.take (j + 1)) = putF (addP F (l.take j)) (rd_T49 l (j : Int)).f2 (rd_T49 l (j : Int)).f3 := by
            rw [List.take_succ_eq_append_getElem hlt, addP_snoc]
            simp [rd_T49, hlt]
          clear hget hmem
          generalize rd_T49 l (j : Int) = x at hx0 hx1 hx2 hx3 hl3 hC3 hsx hwx htake
          replace htake := Aside0.mk htake
          replace hM := Aside0.mk hM
          have hcl : Aside0 (cnt' < maxLen) := ⟨by simp only [maxLen]; omega⟩
          have hzb := below_alloc (Below.refl _ wr) (.cells #[.int .i64 x.f0, .int .i64 x.f1, .int .i64 x.f2, .slice A3 x.f3.length c3] 49 (0, 0))
          have hBZ := Aside0.mk (below_step hB.out hzb)
          have hMZ := Aside0.mk (hM.out.below hzb)
          replace hC3 := Aside0.mk (Kd.C_below hC3 hzb)
          replace hl3 := Aside0.mk hl3
          have hZn := Aside0.mk (blk_new wr (.cells #[.int .i64 x.f0, .int .i64 x.f1, .int .i64 x.f2, .slice A3 x.f3.length c3] 49 (0, 0)))
          clear hzb
          go_wp2
          rename_i Kz hKz
          replace hKz := Aside0.mk hKz
          clear hx0 hx1 hx2 hx3
          have hgp : wr.heap.size ≠ w.heap.size := fun e => by have := hM.out.lt; omega
          obtain ⟨Z, hZe⟩ : ∃ Z, wr.alloc (.cells #[.int .i64 x.f0, .int .i64 x.f1, .int .i64 x.f2, .slice A3 x.f3.length c3] 49 (0, 0)) = Z := ⟨_, rfl⟩
          rw [hZe] at hZn hBZ hMZ hC3 ⊢
          clear hZe hM
          generalize wr.heap.size = gp at hZn hgp ⊢
          have hS2 : ∀ X, KeepO Z w.heap.size none X → X.cell? ⟨gp, 2, none⟩ = some (.int .i64 x.f2) := fun X h => h.cell ((blk_cell hZn.out 2).trans rfl) hgp (by simp)
          have hS3 : ∀ X, KeepO Z w.heap.size none X → X.cell? ⟨gp, 3, none⟩ = some (.slice A3 x.f3.length c3) := fun X h => h.cell ((blk_cell hZn.out 3).trans rfl) hgp (by simp)
          replace hgp := Aside0.mk hgp
          have hXb := Aside0.mk (below_drew (Below.refl Z.heap.size Z))
          have hX := Aside0.mk (KeepO.of_below (bo := w.heap.size) (row := none) hXb.out)
          refine wp_region_noPanic ?_
          refine wp_region_held_drew (S := fun X => KeepO Z w.heap.size none X) (by kernel_rfl) hX.out (fun hHeld => ?_)
          refine wpAnyH_take (i := 0) (oi := { dst := some 28, op := Go.Op.move (Go.Operand.tmp 5), type := 27, pos := "assemble.go:23", after := #[], guard := none }) (v := ?_) rfl (by kernel_rfl) (by kernel_rfl) (by kernel_rfl) (fun _ _ _ h => h) (Or.inl ⟨by kernel_rfl, ?_⟩) (by assumption) ?_
          rotate_left
          · intro W hSw; go_simp; first | done | with_reducible rfl
          try simp only [Act.put, List.setIfInBounds_toArray, List.set_cons_zero, List.set_cons_succ]
          refine wpAnyH_take (i := 1) (oi := { dst := some 29, op := Go.Op.fieldAddr 49 (Go.Operand.tmp 9) 2, type := 0, pos := "assemble.go:23", after := #[], guard := none }) (v := ?_) rfl (by kernel_rfl) (by kernel_rfl) (by kernel_rfl) (fun _ _ _ h => h) (Or.inl ⟨by kernel_rfl, ?_⟩) (by assumption) ?_
          rotate_left
          · intro W hSw; go_simp; first | done | with_reducible rfl
          try simp only [Act.put, List.setIfInBounds_toArray, List.set_cons_zero, List.set_cons_succ]
          refine wpAnyH_take (i := 2) (oi := { dst := some 30, op := Go.Op.load 3 (Go.Operand.tmp 29), type := 3, pos := "assemble.go:23", after := #[{ on := 1, ground := Go.Ground.data }], guard := none }) (v := ?_) rfl (by kernel_rfl) (by kernel_rfl) (by kernel_rfl) (fun _ _ _ h => h) (Or.inl ⟨by kernel_rfl, ?_⟩) (by assumption) ?_
          rotate_left
          · intro W hSw; go_simp; first | done | with_reducible rfl
          try simp only [Act.put, List.setIfInBounds_toArray, List.set_cons_zero, List.set_cons_succ]
          refine wpAnyH_take (i := 3) (oi := { dst := some 31, op := Go.Op.fieldAddr 49 (Go.Operand.tmp 9) 3, type := 0, pos := "assemble.go:23", after := #[], guard := none }) (v := ?_) rfl (by kernel_rfl) (by kernel_rfl) (by kernel_rfl) (fun _ _ _ h => h) (Or.inl ⟨by kernel_rfl, ?_⟩) (by assumption) ?_
          rotate_left
          · intro W hSw; go_simp; first | done | with_reducible rfl
          try simp only [Act.put, List.setIfInBounds_toArray, List.set_cons_zero, List.set_cons_succ]
          refine wpAnyH_take (i := 4) (oi := { dst := some 32, op := Go.Op.load 22 (Go.Operand.tmp 31), type := 22, pos := "assemble.go:23", after := #[{ on := 3, ground := Go.Ground.data }], guard := none }) (v := ?_) rfl (by kernel_rfl) (by kernel_rfl) (by kernel_rfl) (fun _ _ _ h => h) (Or.inl ⟨by kernel_rfl, ?_⟩) (by assumption) ?_
          rotate_left
          · intro W hSw; go_simp; first | done | with_reducible rfl
          try simp only [Act.put, List.setIfInBounds_toArray, List.set_cons_zero, List.set_cons_succ]
          refine wpAnyH_ready (rs := [5]) (by kernel_rfl) (by simp) ?_
          refine AllReadyH.cons (o := { dst := some 33, op := Go.Op.call { callee := Go.Callee.value (Go.Operand.func 30), args := #[Go.Operand.tmp 32], argTypes := #[22] }, type := 22, pos := "assemble.go:23", after := #[{ on := 4, ground := Go.Ground.data }], guard := none }) rfl (fun K hK => ?_) AllReadyH.nil
          refine goes_ (N := some 33) («as» := #[.tmp 32]) Try.func30 (by kernel_rfl) rfl #[.slice A3 x.f3.length c3] (by kernel_rfl) rfl rfl (by kernel_rfl) ?_
          refine (clone_row A3 c3 x.f3 hsx.out _ (Kd.C_below hC3.out hXb.out) hl3.out).mono ?_
          rintro e Y ⟨v, rfl, hv, hb⟩
          refine ⟨_, rfl, ?_⟩
          have hYb := Aside0.mk (below_step hXb.out hb)
          have hX1 := Aside0.mk (KeepO.of_below (bo := w.heap.size) (row := none) hYb.out)
          replace hv := Aside0.mk hv
          clear hb
          refine hK.out _ _ ?_ (fun hHeld => ?_)
          · exact hX1.out
          clear hK K
          try simp only [Act.put, List.setIfInBounds_toArray, List.set_cons_zero, List.set_cons_succ]
          refine wpAnyH_ready (rs := [6]) (by kernel_rfl) (by simp) ?_
          refine AllReadyH.cons (o := { dst := none, op := Go.Op.mapUpdate 27 (Go.Operand.tmp 28) (Go.Operand.tmp 30) (Go.Operand.tmp 33), type := 0, pos := "assemble.go:23", after := #[{ on := 0, ground := Go.Ground.data }, { on := 2, ground := Go.Ground.data }, { on := 5, ground := Go.Ground.data }, { on := 5, ground := Go.Ground.chain }, { on := 0, ground := Go.Ground.phase }, { on := 1, ground := Go.Ground.phase }, { on := 2, ground := Go.Ground.phase }, { on := 3, ground := Go.Ground.phase }, { on := 4, ground := Go.Ground.phase }, { on := 5, ground := Go.Ground.phase }], guard := none }) rfl (fun K hK => ?_) AllReadyH.nil
          obtain ⟨W1, hrun, hM1, hT1⟩ := (hMZ.out.below hYb.out).store Try.underlying3 Try.underlying27 hcl.out hwx.out hv.out
          rw [if_pos (by first | rfl | kernel_rfl)]
          refine wp_put rfl rfl rfl rfl hrun ?_
          have hX2 := Aside0.mk (hX1.out.turned hT1)
          refine hK.out _ _ ?_ (fun hHeld => ?_)
          · exact hX2.out
          clear hK K
          try simp only [Act.put, List.setIfInBounds_toArray, List.set_cons_zero, List.set_cons_succ]
          refine wpAnyH_done (by kernel_rfl) ?_ _
          try simp only [Act.put, List.setIfInBounds_toArray, List.set_cons_zero, List.set_cons_succ, List.getElem_toArray, List.getElem_cons_zero, List.getElem_cons_succ]
          refine NoPanic.normal ?_
          (try dsimp only [Exit.then])
          refine hKz.out _ _ ?_
          have hBW := Aside0.mk (below_map (below_step hBZ.out hYb.out) hT1 (Nat.le_refl _))
          clear hHeld hrun hS2 hS3
          go_wp2
          go_roundg (l.length - (j + 1))
          case measure => omega
          case rel => exact ⟨j + 1, by go_num, by omega, by omega, ⟨_, by rw [htake.out]; exact hM1, by omega⟩, hBW⟩
        · have hjl : j = l.length := by omega
          subst hjl
          have hltz : ¬ (l.length : Int) < (l.length : Int) := by omega
          rw [List.take_length] at hM
          go_wp2
          go_ret
          exact ⟨_, rfl, cnt', hM, hcnt, hB.out⟩
    · intro x v w1 cnt1 hwx hlx hfx hrg1 hltc hg1 hs1 hen
      obtain ⟨m, hm⟩ : ∃ m, F x = some m := by
        cases hFx : F x with
        | none => rw [hf0.out x hFx] at hfx; cases hfx
        | some m => exact ⟨m, rfl⟩
      obtain ⟨v', hv', hrow⟩ := hf1.out x m hm
      rw [hfx] at hv'
      cases hv'
      obtain ⟨Av, cv, rfl, hlv, hCv⟩ := hrow
      have hB1 := Aside0.mk (pw_below_grown hB.out (some (w.heap.size + 1)) hB.out.size hg1 (fun j hj => by cases hj; omega))
      have hCw := Aside0.mk (Kd.C_below hCv hB1.out)
      have hMw := Aside0.mk (hM.out.kept hg1 (by simp) (fun _ _ hc => hrg.out.cell hg1 hc))
      have hshm := Aside0.mk (hFs.out x m hm)
      have hcl : Aside0 (k1 < maxLen) := ⟨by simp only [maxLen]; omega⟩
      have hput : Aside0 (putF (fun i => if lf i = true then none else F i) x m = fun i => if (lf i && !decide (i = x)) = true then none else F i) := ⟨by
        funext i
        unfold putF
        by_cases e : i = x
        · subst e; rw [if_pos rfl, hm]; simp
        · rw [if_neg e]; simp [e]⟩
      replace hlv := Aside0.mk hlv
      replace hrg1 := Aside0.mk hrg1
      replace hwx := Aside0.mk hwx
      clear hfx hlx hm hCv hs1 hg1 hM
      go_wp2_with (first | (go_at_call 30; (refine (clone_row Av cv m hshm.out _ hCw.out hlv.out).mono ?_); rintro e Y ⟨u, rfl, hu, hbY⟩) | (at_mapUpdate; refine wpList_put rfl _ _ _ 27 rfl Try.underlying3 Try.underlying27 hcl.out rfl (hMw.out.below hbY) rfl hwx.out rfl hu ?_; intro Z hMZ hTZ; go_frame))
      go_roundg cnt1
      case measure => omega
      case rel => exact ⟨_, cnt1, k1 + 1, Nat.le_refl _, by omega, ⟨(hrg1.out.below hbY).kept hTZ.grown (fun e => by have := Option.some.inj e; omega) (fun e => by have := Option.some.inj e; omega)⟩, ⟨by rw [← hput.out]; exact hMZ⟩, ⟨below_map (below_step hB1.out hbY) hTZ (Nat.le_refl _)⟩⟩
end Go.Proofs.Ytiecjkkjcdjndaa.Asm
namespace Go.Proofs.Ytiecjkkjcdjndaa.Asm
open Go Go.RowKit Go.Shelf Go.Proofs Go.Proofs.Ytiecjkkjcdjndaa.Xw Go.Proofs.Ytiecjkkjcdjndaa.PAll Go.Proofs.YtiecjkkjcdjndaaW.PrintWords Go.Proofs.YtiecjkkjcdjndaaW.PrintLast Go.Proofs.YtiecjkkjcdjndaaW.PrintMore Go.Proofs.Ytiecjkkjcdjndaa.Mp Go.Proofs.Ytiecjkkjcdjndaa.Pure
attribute [local go_sem] Oper.semAt_some
/-- the last piece of place i -/
def findP (i : Int) (l : List PC) : Option (List Int) := addP (fun _ => none) l i
theorem addP_at (F : Int → Option (List Int)) (i : Int) (l : List PC) : addP F l i = match findP i l with | some b => some b | none => F i := by
  unfold findP addP
  induction l generalizing F with
  | nil => rfl
  | cons p l ih =>
    rw [List.foldl_cons, List.foldl_cons, ih (putF F p.f2 p.f3), ih (putF (fun _ => none) p.f2 p.f3)]
    cases l.foldl (fun F p => putF F p.f2 p.f3) (fun _ => none) i with
    | some b => rfl
    | none =>
      unfold putF
      by_cases e : i = p.f2
      · simp only [if_pos e]
      · simp only [if_neg e]
theorem find_append (i : Int) (l k : List PC) : findP i (l ++ k) = addP (addP (fun _ => none) l) k i := by
  unfold findP addP
  rw [List.foldl_append]
theorem find_none {i : Int} {l : List PC} (h : ∀ p ∈ l, p.f2 ≠ i) : findP i l = none := by
  induction l with
  | nil => rfl
  | cons p l ih =>
    have h1 := ih (fun q hq => h q (by simp [hq]))
    show addP (putF (fun _ => none) p.f2 p.f3) l i = none
    rw [addP_at, h1]
    unfold putF
    simp only
    rw [if_neg (fun e => h p (by simp) e.symm)]
theorem find_hit {i : Int} {l : List PC} {j : Nat} {p : PC} (hp : l[j]? = some p) (he : p.f2 = i) (h : ∀ q ∈ l.drop (j + 1), q.f2 ≠ i) : findP i l = some p.f3 := by
  have hj : j < l.length := (List.getElem?_eq_some_iff.1 hp).1
  have hsplit : l = l.take (j + 1) ++ l.drop (j + 1) := (List.take_append_drop _ _).symm
  have h1 : findP i (l.drop (j + 1)) = none := find_none h
  have h2 : findP i (l.take (j + 1)) = some p.f3 := by
    rw [List.take_succ_eq_append_getElem hj]
    unfold findP
    rw [addP_snoc]
    unfold putF
    rw [show l[j] = p from (List.getElem?_eq_some_iff.1 hp).2, if_pos he.symm]
  rw [hsplit, find_append, addP_at, h1]
  exact h2
theorem find_enters (args : Array Value) (w : World) : (callFunc 18 args).run Try.prog w = .ok (.enter 18 args) w := enters_of Try.func18 (by kernel_rfl) rfl args w
set_option linter.unusedSimpArgs false in
set_option linter.unusedVariables false in
set_option maxRecDepth 100000 in
set_option maxHeartbeats 8000000 in
theorem find_calls (A : Option Addr) (c : Nat) (l : List PC) (hlen : l.length ≤ 1000) (i : Int) (bi : Nat) (w : World) (hC : k49.C w A l.length l) (hi : w.heap[bi]? = some (.cells #[.int .i64 i] 3 (0, 0))) :
    Calls Try.prog 18 #[.slice A l.length c, .pointer (some ⟨bi, 0, none⟩)] w fun e w' => ∃ v, e = .returned (.tuple #[v, .bool (findP i l).isSome]) ∧ RowB w' v ((findP i l).getD []) ∧ Below w.heap.size w w' := by
  replace hC := Aside0.mk hC
  replace hi := Aside0.mk hi
  obtain ⟨res, hres⟩ : ∃ res, findP i l = res := ⟨_, rfl⟩
  rw [hres]
  replace hres := Aside0.mk hres
  go_enter Try.func18, Try.ntmps18
  go_wp2
  go_loopg [5] l.length (fun gg v5 wr => ∃ j : Nat, v5 = .int .i64 ((j : Int) - 1) ∧ j ≤ l.length ∧ j ≤ gg ∧ Aside0 (∀ p ∈ l.drop j, p.f2 ≠ i) ∧ Aside0 (Below w.heap.size w wr))
  case atStart => exact ⟨l.length, by go_num, Nat.le_refl _, Nat.le_refl _, ⟨by simp⟩, ⟨Below.refl _ _⟩⟩
  case round =>
    obtain ⟨j, rfl, hj, hgg, hno, hB⟩ := hrel
    cases j with
    | zero =>
      have hr := hres.out
      rw [find_none (by have := hno.out; rwa [List.drop_zero] at this)] at hr
      subst hr
      have hge : ¬ (((0 : Nat) : Int) - 1 ≥ 0) := by omega
      go_wp2
      refine bodyPost_ret (results_tmp2 rfl _ _ _) rfl ?_
      exact ⟨_, rfl, ⟨none, 0, rfl, Nat.le_refl _, rfl, by simp, fun h => absurd h (by simp)⟩, hB.out⟩
    | succ j =>
      have hlt : j < l.length := by omega
      obtain ⟨ad, A3, c3, eA, hx0, hx1, hx2, hx3, hl3, hC3⟩ := at_T49 (Kd.C_below hC.out hB.out) (j : Int) (by omega) (by omega)
      cases eA
      simp only [Int.toNat_natCast] at hx0 hx1 hx2 hx3
      have hget : l[j]? = some (rd_T49 l (j : Int)) := by simp [rd_T49, hlt]
      have hdrop : l.drop j = rd_T49 l (j : Int) :: l.drop (j + 1) := by
        rw [List.drop_eq_getElem_cons hlt]
        congr 1
        simp [rd_T49, hlt]
      generalize rd_T49 l (j : Int) = x at hx0 hx1 hx2 hx3 hl3 hC3 hget hdrop
      replace hC3 := Aside0.mk hC3
      replace hl3 := Aside0.mk hl3
      rw [show (((j + 1 : Nat) : Int) - 1) = (j : Int) by omega]
      have hge : ((j : Int) ≥ 0) := by omega
      have hge' : (0 ≤ (j : Int)) := by omega
      have hltz : (j : Int) < (l.length : Int) := by omega
      replace hget := Aside0.mk hget
      replace hdrop := Aside0.mk hdrop
      clear hx0 hx1
      go_wp2
      rename_i Kz hKz
      replace hKz := Aside0.mk hKz
      have hS0 : ∀ X, Below wr.heap.size wr X → X.cell? ⟨(ad.add (j * 4)).block, (ad.add (j * 4)).off + 2, none⟩ = some (.int .i64 x.f2) := fun X h => (h.cell (World.block_lt_of_cell? wr _ hx2)).trans hx2
      have hS1 : ∀ X, Below wr.heap.size wr X → X.cell? ⟨bi, 0, none⟩ = some (.int .i64 i) := fun X h => (blk_cell (blk_below hi.out (below_step hB.out h)) 0).trans rfl
      have hX : Below wr.heap.size wr wr := Below.refl _ _
      by_cases heq : x.f2 = i
      · have d0 : (x.f2 == i) = true := by rw [heq]; exact beq_self_eq_true i
        have hr := hres.out
        rw [find_hit hget.out heq hno.out] at hr
        subst hr
        replace heq := Aside0.mk heq
        refine wp_region_noPanic ?_
        refine wp_region_held_drew (S := fun X => Below wr.heap.size wr X) (by kernel_rfl) (below_drew hX) (fun hHeld => ?_)
        replace hX := Aside0.mk (below_drew hX)
        refine wpAnyH_take (i := 0) (oi := { dst := some 13, op := Go.Op.move (Go.Operand.tmp 0), type := 46, pos := "law.go:82", after := #[], guard := none }) (v := ?_) rfl (by kernel_rfl) (by kernel_rfl) (by kernel_rfl) (fun _ _ _ h => h) (Or.inl ⟨by kernel_rfl, ?_⟩) (by assumption) ?_
        rotate_left
        · intro W hSw; go_simp; first | done | with_reducible rfl
        try simp only [Act.put, List.setIfInBounds_toArray, List.set_cons_zero, List.set_cons_succ]
        refine wpAnyH_take (i := 1) (oi := { dst := some 14, op := Go.Op.move (Go.Operand.tmp 5), type := 3, pos := "law.go:82", after := #[], guard := none }) (v := ?_) rfl (by kernel_rfl) (by kernel_rfl) (by kernel_rfl) (fun _ _ _ h => h) (Or.inl ⟨by kernel_rfl, ?_⟩) (by assumption) ?_
        rotate_left
        · intro W hSw; go_simp; first | done | with_reducible rfl
        try simp only [Act.put, List.setIfInBounds_toArray, List.set_cons_zero, List.set_cons_succ]
        refine wpAnyH_take (i := 2) (oi := { dst := some 15, op := Go.Op.indexAddr 46 (Go.Operand.tmp 13) (Go.Operand.tmp 14), type := 0, pos := "law.go:82", after := #[{ on := 0, ground := Go.Ground.data }, { on := 1, ground := Go.Ground.data }], guard := none }) (v := ?_) rfl (by kernel_rfl) (by kernel_rfl) (by kernel_rfl) (fun _ _ _ h => h) (Or.inl ⟨by kernel_rfl, ?_⟩) (by assumption) ?_
        rotate_left
        · intro W hSw; go_simp; first | done | with_reducible rfl
        try simp only [Act.put, List.setIfInBounds_toArray, List.set_cons_zero, List.set_cons_succ]
        refine wpAnyH_take (i := 3) (oi := { dst := some 16, op := Go.Op.fieldAddr 49 (Go.Operand.tmp 15) 2, type := 0, pos := "law.go:82", after := #[{ on := 2, ground := Go.Ground.data }], guard := none }) (v := ?_) rfl (by kernel_rfl) (by kernel_rfl) (by kernel_rfl) (fun _ _ _ h => h) (Or.inl ⟨by kernel_rfl, ?_⟩) (by assumption) ?_
        rotate_left
        · intro W hSw; go_simp; first | done | with_reducible rfl
        try simp only [Act.put, List.setIfInBounds_toArray, List.set_cons_zero, List.set_cons_succ]
        refine wpAnyH_take (i := 4) (oi := { dst := some 17, op := Go.Op.load 3 (Go.Operand.tmp 16), type := 3, pos := "law.go:82", after := #[{ on := 3, ground := Go.Ground.data }], guard := none }) (v := ?_) rfl (by kernel_rfl) (by kernel_rfl) (by kernel_rfl) (fun _ _ _ h => h) (Or.inl ⟨by kernel_rfl, ?_⟩) (by assumption) ?_
        rotate_left
        · intro W hSw; go_simp; first | done | with_reducible rfl
        try simp only [Act.put, List.setIfInBounds_toArray, List.set_cons_zero, List.set_cons_succ]
        refine wpAnyH_take (i := 5) (oi := { dst := some 18, op := Go.Op.load 3 (Go.Operand.tmp 1), type := 3, pos := "law.go:82", after := #[], guard := none }) (v := ?_) rfl (by kernel_rfl) (by kernel_rfl) (by kernel_rfl) (fun _ _ _ h => h) (Or.inl ⟨by kernel_rfl, ?_⟩) (by assumption) ?_
        rotate_left
        · intro W hSw; go_simp; first | done | with_reducible rfl
        try simp only [Act.put, List.setIfInBounds_toArray, List.set_cons_zero, List.set_cons_succ]
        refine wpAnyH_take (i := 6) (oi := { dst := some 19, op := Go.Op.binOp Go.BinOp.eql 3 (Go.Operand.tmp 17) (Go.Operand.tmp 18) 3, type := 4, pos := "law.go:82", after := #[{ on := 4, ground := Go.Ground.data }, { on := 5, ground := Go.Ground.data }], guard := none }) (v := ?_) rfl (by kernel_rfl) (by kernel_rfl) (by kernel_rfl) (fun _ _ _ h => h) (Or.inl ⟨by kernel_rfl, ?_⟩) (by assumption) ?_
        rotate_left
        · intro W hSw; go_simp; first | done | with_reducible rfl
        try simp only [Act.put, List.setIfInBounds_toArray, List.set_cons_zero, List.set_cons_succ]
        refine wpAnyH_done (by kernel_rfl) ?_ _
        try simp only [Act.put, List.setIfInBounds_toArray, List.set_cons_zero, List.set_cons_succ, List.getElem_toArray, List.getElem_cons_zero, List.getElem_cons_succ]
        refine NoPanic.normal ?_
        (try dsimp only [Exit.then])
        refine hKz.out _ _ ?_
        clear hHeld hS0 hS1
        replace hx3 := hX.out.cell (World.block_lt_of_cell? wr _ hx3) |>.trans hx3
        go_wp2
        refine bodyPost_ret (results_tmp2 rfl _ _ _) rfl ?_
        exact ⟨_, rfl, ⟨A3, c3, rfl, hl3.out, Kd.C_below hC3.out hX.out⟩, below_step hB.out hX.out⟩
      · have d0 : (x.f2 == i) = false := beq_eq_false_iff_ne.mpr heq
        have hno' : Aside0 (∀ p ∈ l.drop j, p.f2 ≠ i) := ⟨fun p hp => by
          rw [hdrop.out, List.mem_cons] at hp
          rcases hp with rfl | hp
          · exact heq
          · exact hno.out p hp⟩
        replace heq := Aside0.mk heq
        refine wp_region_noPanic ?_
        refine wp_region_held_drew (S := fun X => Below wr.heap.size wr X) (by kernel_rfl) (below_drew hX) (fun hHeld => ?_)
        replace hX := Aside0.mk (below_drew hX)
        refine wpAnyH_take (i := 0) (oi := { dst := some 13, op := Go.Op.move (Go.Operand.tmp 0), type := 46, pos := "law.go:82", after := #[], guard := none }) (v := ?_) rfl (by kernel_rfl) (by kernel_rfl) (by kernel_rfl) (fun _ _ _ h => h) (Or.inl ⟨by kernel_rfl, ?_⟩) (by assumption) ?_
        rotate_left
        · intro W hSw; go_simp; first | done | with_reducible rfl
        try simp only [Act.put, List.setIfInBounds_toArray, List.set_cons_zero, List.set_cons_succ]
        refine wpAnyH_take (i := 1) (oi := { dst := some 14, op := Go.Op.move (Go.Operand.tmp 5), type := 3, pos := "law.go:82", after := #[], guard := none }) (v := ?_) rfl (by kernel_rfl) (by kernel_rfl) (by kernel_rfl) (fun _ _ _ h => h) (Or.inl ⟨by kernel_rfl, ?_⟩) (by assumption) ?_
        rotate_left
        · intro W hSw; go_simp; first | done | with_reducible rfl
        try simp only [Act.put, List.setIfInBounds_toArray, List.set_cons_zero, List.set_cons_succ]
        refine wpAnyH_take (i := 2) (oi := { dst := some 15, op := Go.Op.indexAddr 46 (Go.Operand.tmp 13) (Go.Operand.tmp 14), type := 0, pos := "law.go:82", after := #[{ on := 0, ground := Go.Ground.data }, { on := 1, ground := Go.Ground.data }], guard := none }) (v := ?_) rfl (by kernel_rfl) (by kernel_rfl) (by kernel_rfl) (fun _ _ _ h => h) (Or.inl ⟨by kernel_rfl, ?_⟩) (by assumption) ?_
        rotate_left
        · intro W hSw; go_simp; first | done | with_reducible rfl
        try simp only [Act.put, List.setIfInBounds_toArray, List.set_cons_zero, List.set_cons_succ]
        refine wpAnyH_take (i := 3) (oi := { dst := some 16, op := Go.Op.fieldAddr 49 (Go.Operand.tmp 15) 2, type := 0, pos := "law.go:82", after := #[{ on := 2, ground := Go.Ground.data }], guard := none }) (v := ?_) rfl (by kernel_rfl) (by kernel_rfl) (by kernel_rfl) (fun _ _ _ h => h) (Or.inl ⟨by kernel_rfl, ?_⟩) (by assumption) ?_
        rotate_left
        · intro W hSw; go_simp; first | done | with_reducible rfl
        try simp only [Act.put, List.setIfInBounds_toArray, List.set_cons_zero, List.set_cons_succ]
        refine wpAnyH_take (i := 4) (oi := { dst := some 17, op := Go.Op.load 3 (Go.Operand.tmp 16), type := 3, pos := "law.go:82", after := #[{ on := 3, ground := Go.Ground.data }], guard := none }) (v := ?_) rfl (by kernel_rfl) (by kernel_rfl) (by kernel_rfl) (fun _ _ _ h => h) (Or.inl ⟨by kernel_rfl, ?_⟩) (by assumption) ?_
        rotate_left
        · intro W hSw; go_simp; first | done | with_reducible rfl
        try simp only [Act.put, List.setIfInBounds_toArray, List.set_cons_zero, List.set_cons_succ]
        refine wpAnyH_take (i := 5) (oi := { dst := some 18, op := Go.Op.load 3 (Go.Operand.tmp 1), type := 3, pos := "law.go:82", after := #[], guard := none }) (v := ?_) rfl (by kernel_rfl) (by kernel_rfl) (by kernel_rfl) (fun _ _ _ h => h) (Or.inl ⟨by kernel_rfl, ?_⟩) (by assumption) ?_
        rotate_left
        · intro W hSw; go_simp; first | done | with_reducible rfl
        try simp only [Act.put, List.setIfInBounds_toArray, List.set_cons_zero, List.set_cons_succ]
        refine wpAnyH_take (i := 6) (oi := { dst := some 19, op := Go.Op.binOp Go.BinOp.eql 3 (Go.Operand.tmp 17) (Go.Operand.tmp 18) 3, type := 4, pos := "law.go:82", after := #[{ on := 4, ground := Go.Ground.data }, { on := 5, ground := Go.Ground.data }], guard := none }) (v := ?_) rfl (by kernel_rfl) (by kernel_rfl) (by kernel_rfl) (fun _ _ _ h => h) (Or.inl ⟨by kernel_rfl, ?_⟩) (by assumption) ?_
        rotate_left
        · intro W hSw; go_simp; first | done | with_reducible rfl
        try simp only [Act.put, List.setIfInBounds_toArray, List.set_cons_zero, List.set_cons_succ]
        refine wpAnyH_done (by kernel_rfl) ?_ _
        try simp only [Act.put, List.setIfInBounds_toArray, List.set_cons_zero, List.set_cons_succ, List.getElem_toArray, List.getElem_cons_zero, List.getElem_cons_succ]
        refine NoPanic.normal ?_
        (try dsimp only [Exit.then])
        refine hKz.out _ _ ?_
        clear hHeld hS0 hS1
        go_wp2
        go_roundg j
        case measure => omega
        case rel => exact ⟨j, by go_num, by omega, by omega, hno', ⟨below_step hB.out hX.out⟩⟩
end Go.Proofs.Ytiecjkkjcdjndaa.Asm
namespace Go.Proofs.Ytiecjkkjcdjndaa.Asm
open Go Go.RowKit Go.Shelf Go.Proofs Go.Proofs.Ytiecjkkjcdjndaa.Xw Go.Proofs.Ytiecjkkjcdjndaa.PAll Go.Proofs.YtiecjkkjcdjndaaW.PrintWords Go.Proofs.YtiecjkkjcdjndaaW.PrintLast Go.Proofs.YtiecjkkjcdjndaaW.PrintMore Go.Proofs.Ytiecjkkjcdjndaa.Mp Go.Proofs.Ytiecjkkjcdjndaa.Pure
theorem info49 : ∃ z bytes, (Try.prog.info? 49).map (fun i => (i.zero, i.size, i.bytes)) = some (some z, 4, bytes) ∧ z.cells.size = 4 ∧ bytes = 48 := ⟨.agg #[.int .i64 0, .int .i64 0, .int .i64 0, .slice none 0 0], 48, by kernel_rfl, rfl, rfl⟩
/-- the cells of pieces -/
def QCells (w0 : World) : List PC → List Value → Prop
  | [], cs => cs = []
  | p :: ps, cs => ∃ c rest, cs = c ++ rest ∧ k49.K w0 p c ∧ QCells w0 ps rest
theorem QCells.len {w0 : World} : ∀ {ps : List PC} {cs : List Value}, QCells w0 ps cs → cs.length = ps.length * 4
  | [], cs, h => by have h : cs = [] := h; subst h; rfl
  | p :: ps, cs, h => by
    obtain ⟨c, rest, rfl, hk, hr⟩ := h
    have h1 := k49.K_len hk
    have h2 := hr.len
    rw [List.length_append, h2, h1, List.length_cons]
    show 4 + ps.length * 4 = (ps.length + 1) * 4
    omega
theorem QCells.one {w0 : World} : ∀ {ps : List PC} {cs : List Value}, QCells w0 ps cs → ∀ u ∈ cs, u.oneCell' = true
  | [], cs, h, u, hu => by have h : cs = [] := h; subst h; cases hu
  | p :: ps, cs, h, u, hu => by
    obtain ⟨c, rest, rfl, hk, hr⟩ := h
    rcases List.mem_append.1 hu with h1 | h1
    · exact k49.K_one hk u h1
    · exact hr.one u h1
theorem QCells.app {w0 : World} : ∀ {ps qs : List PC} {cs ds : List Value}, QCells w0 ps cs → QCells w0 qs ds → QCells w0 (ps ++ qs) (cs ++ ds)
  | [], qs, cs, ds, h, h2 => by have h : cs = [] := h; subst h; exact h2
  | p :: ps, qs, cs, ds, h, h2 => by
    obtain ⟨c, rest, rfl, hk, hr⟩ := h
    exact ⟨c, rest ++ ds, by rw [List.append_assoc], hk, hr.app h2⟩
theorem QCells.at_ {w0 : World} : ∀ {ps : List PC} {cs : List Value}, QCells w0 ps cs → ∀ (j : Nat) (p : PC), ps[j]? = some p → ∃ c, c.length = 4 ∧ k49.K w0 p c ∧ ∀ i u, c[i]? = some u → cs[j * 4 + i]? = some u
  | [], _, _, j, p, hj => by simp at hj
  | q :: ps, cs, h, j, p, hj => by
    obtain ⟨c, rest, rfl, hk, hr⟩ := h
    have hl : c.length = 4 := k49.K_len hk
    cases j with
    | zero =>
      obtain rfl : q = p := by simpa using hj
      refine ⟨c, hl, hk, fun i u hu => ?_⟩
      have hi : i < c.length := (List.getElem?_eq_some_iff.1 hu).1
      rw [show 0 * 4 + i = i by omega, List.getElem?_append_left hi]
      exact hu
    | succ j =>
      obtain ⟨c', h1, h2, h3⟩ := hr.at_ j p (by simpa using hj)
      refine ⟨c', h1, h2, fun i u hu => ?_⟩
      rw [List.getElem?_append_right (by omega), show (j + 1) * 4 + i - c.length = j * 4 + i by omega]
      exact h3 i u hu
/-- a row that is read, as cells -/
theorem cells_of {w0 : World} {A : Option Addr} : ∀ {l : List PC} (o : Nat) (ad : Addr), (∀ j p, l[j]? = some p → ∃ c, c.length = 4 ∧ k49.K w0 p c ∧ ∀ i u, c[i]? = some u → w0.cell? (ad.add (o + (j * 4 + i))) = some u) →
    ∃ cs, QCells w0 l cs ∧ ∀ j u, cs[j]? = some u → w0.cell? (ad.add (o + j)) = some u
  | [], o, ad, h => ⟨[], rfl, fun j u hu => by simp at hu⟩
  | p :: l, o, ad, h => by
    obtain ⟨c, hl, hk, hc⟩ := h 0 p rfl
    obtain ⟨cs, h1, h2⟩ := cells_of (A := A) (l := l) (o + 4) ad (fun j q hq => by
      obtain ⟨c', g1, g2, g3⟩ := h (j + 1) q (by simpa using hq)
      exact ⟨c', g1, g2, fun i u hu => by
        have := g3 i u hu
        rwa [show o + ((j + 1) * 4 + i) = o + 4 + (j * 4 + i) by omega] at this⟩)
    refine ⟨c ++ cs, ⟨c, cs, rfl, hk, h1⟩, fun j u hu => ?_⟩
    by_cases hj : j < c.length
    · rw [List.getElem?_append_left hj] at hu
      have := hc j u hu
      rwa [show o + (0 * 4 + j) = o + j by omega] at this
    · rw [List.getElem?_append_right (by omega)] at hu
      have := h2 _ u hu
      rwa [show o + 4 + (j - c.length) = o + j by omega] at this
def QRow (w w0 : World) (base : Nat) (v : Value) (l : List PC) : Prop := ∃ cs, w.ownsRow base 49 4 v l.length cs ∧ QCells w0 l cs
theorem QRow.nil (w w0 : World) (base : Nat) : QRow w w0 base (.slice none 0 0) [] := ⟨[], own_nil _ _ _ _, rfl⟩
theorem QRow.reads {w w0 : World} {base : Nat} {v : Value} {l : List PC} (h : QRow w w0 base v l) (hb : Below w0.heap.size w0 w) (hlen : l.length ≤ 1000) : ∃ A c, v = .slice A l.length c ∧ k49.C w A l.length l := by
  obtain ⟨cs, h1, h2⟩ := h
  rcases Nat.eq_zero_or_pos l.length with h0 | h0
  · obtain ⟨A, c, rfl⟩ := own_slice h1
    exact ⟨A, c, rfl, rfl, by omega, fun hp => absurd hp (by omega)⟩
  · obtain ⟨g, cap, rfl, _, _⟩ := h1.form h0
    refine ⟨_, _, rfl, rfl, by omega, fun _ => ⟨_, rfl, fun j p hj => ?_⟩⟩
    obtain ⟨c, g1, g2, g3⟩ := h2.at_ j p hj
    exact ⟨c, g1, k49.K_below hb g2, fun i u hu => h1.cells (g := g) rfl _ _ (g3 i u hu)⟩
theorem QRow.append {w0 W : World} {base : Nat} {v : Value} {xs ys : List PC} {A : Option Addr} {c : Nat} (h : QRow W w0 base v xs) (hbase : base ≤ W.heap.size) (hb : Below w0.heap.size w0 W) (hlen : xs.length + ys.length ≤ 1000) (hC : k49.C w0 A ys.length ys) :
    ∃ v1 w1, (Builtin.append_ #[46, 46] 46 #[v, .slice A ys.length c]).run Try.prog W = .ok v1 w1 ∧ QRow w1 w0 base v1 (xs ++ ys) ∧ Below base W w1 := by
  obtain ⟨cs, h1, h2⟩ := h
  obtain ⟨z, bytes, hinf, hz, hby⟩ := info49
  subst hby
  obtain ⟨i0, hi, hzz⟩ := Option.map_eq_some_iff.1 hinf
  simp only [Prod.mk.injEq] at hzz
  obtain ⟨hz0, hz1, hz2⟩ := hzz
  have ht := Try.underlying46
  rcases A with _ | ad
  · have h0 : ys = [] := by
      rcases Nat.eq_zero_or_pos ys.length with h0 | h0
      · exact List.eq_nil_of_length_eq_zero h0
      · obtain ⟨ad, h, _⟩ := hC.2.2 h0
        cases h
    subst h0
    refine ⟨v, W, ?_, ⟨cs, by simpa using h1, by simpa using h2⟩, Below.refl _ _⟩
    rcases h1.2 with ⟨rfl, hn⟩ | ⟨g, cap, cur, rfl, _, _, hnc, _⟩
    · simp [Builtin.append_, run_underlying ht, sizeOf, typeInfo, hi, Builtin.lenOf, Builtin.firstCells]
    · simp [Builtin.append_, run_underlying ht, sizeOf, typeInfo, hi, Builtin.lenOf, Builtin.firstCells, hnc, storeCells]
  · have hcells : ∃ ds, QCells w0 ys ds ∧ ∀ j u, ds[j]? = some u → w0.cell? (ad.add (0 + j)) = some u := by
      refine cells_of (A := some ad) 0 ad (fun j p hj => ?_)
      have hn : 0 < ys.length := Nat.lt_of_le_of_lt (Nat.zero_le j) (List.getElem?_eq_some_iff.1 hj).1
      obtain ⟨ad', e, hh⟩ := hC.2.2 hn
      cases e
      obtain ⟨c', g1, g2, g3⟩ := hh j p hj
      exact ⟨c', g1, g2, fun i u hu => by rw [Nat.zero_add]; exact g3 i u hu⟩
    obtain ⟨ds, hq, hd⟩ := hcells
    obtain ⟨v1, w1, hr, h3, h4, _, h5⟩ := run_append_own_at (P := Try.prog) W base 46 46 49 i0 z 4 48 ht hi hz0 hz1 hz2 hz (by omega) v xs.length cs h1 ad ys.length c ds hq.len
      (fun j u hu => pw_cell_below hb (by have := hd j u hu; rwa [Nat.zero_add] at this)) hq.one (by simp only [maxLen]; omega) (by omega) hbase
    exact ⟨v1, w1, hr, ⟨cs ++ ds, by rw [List.length_append]; exact h3, h2.app hq⟩, h4.os, h4.tape, h4.output, h4.size, fun g hg => h4.block g (Nat.lt_of_lt_of_le hg hbase) (fun e => by
      have := own_base h1 g e.symm
      omega)⟩
theorem addP_some {l : List PC} {i : Int} {m : List Int} : ∀ {F : Int → Option (List Int)}, addP F l i = some m → F i = some m ∨ ∃ p ∈ l, p.f2 = i ∧ p.f3 = m := by
  induction l with
  | nil => intro F h; exact .inl h
  | cons p l ih =>
    intro F h
    rcases ih (F := putF F p.f2 p.f3) h with h1 | ⟨q, hq, e⟩
    · unfold putF at h1
      by_cases e : i = p.f2
      · rw [if_pos e] at h1
        exact .inr ⟨p, by simp, e.symm, Option.some.inj h1⟩
      · rw [if_neg e] at h1
        exact .inl h1
    · exact .inr ⟨q, by simp [hq], e⟩
end Go.Proofs.Ytiecjkkjcdjndaa.Asm
namespace Go.Proofs.Ytiecjkkjcdjndaa.Asm
open Go Go.RowKit Go.Shelf Go.Proofs Go.Proofs.Ytiecjkkjcdjndaa.Xw Go.Proofs.Ytiecjkkjcdjndaa.PAll Go.Proofs.YtiecjkkjcdjndaaW.PrintWords Go.Proofs.YtiecjkkjcdjndaaW.PrintLast Go.Proofs.YtiecjkkjcdjndaaW.PrintMore Go.Proofs.Ytiecjkkjcdjndaa.Mp Go.Proofs.Ytiecjkkjcdjndaa.Pure
attribute [local go_sem] Oper.semAt_some
theorem equal_enters (args : Array Value) (w : World) : (callFunc 32 args).run Try.prog w = .ok (.enter 32 args) w := enters_of Try.func32 (by kernel_rfl) rfl args w
set_option maxRecDepth 100000 in
set_option maxHeartbeats 4000000 in
theorem equal_calls (b1 b2 n1 n2 : Nat) (F : Int → Option (List Int)) (w : World) (hm1 : MB w b1 n1 F) (hm2 : MB w b2 n2 F) :
    Calls Try.prog 31 #[.map (some b1), .map (some b2), .func (.func 32) #[] #[]] w fun e w' => e = .returned (.bool true) ∧ Below w.heap.size w w' := by
  have hM2 := Aside0.mk hm2
  obtain ⟨f1, hV1, hf0, hf1⟩ := hm1
  obtain ⟨f2, hV2, hg0, hg1⟩ := hm2
  obtain ⟨D1, hown1, hD1⟩ := id hV1
  obtain ⟨D2, hown2, hD2⟩ := hV2
  obtain ⟨z, hz1⟩ : ∃ z, Maps.size D1 = z := ⟨_, rfl⟩
  have hz2 : Maps.size D2 = z := by
    rw [← hz1]
    refine size_same Try.underlying3 hown2 hown1 (fun i hi => ?_)
    rw [(hD1 i hi).1, (hD2 i hi).1]
    cases hF : F i with
    | none => rw [hf0 i hF, hg0 i hF]
    | some m => obtain ⟨v, hv, _⟩ := hf1 i m hF; obtain ⟨v', hv', _⟩ := hg1 i m hF; rw [hv, hv']; rfl
  replace hown1 := Aside0.mk hown1
  replace hown2 := Aside0.mk hown2
  replace hz1 := Aside0.mk hz1
  replace hz2 := Aside0.mk hz2
  replace hV1 := Aside0.mk hV1
  replace hf0 := Aside0.mk hf0
  replace hf1 := Aside0.mk hf1
  clear hD1 hD2 hg0 hg1
  have eg := equal_enters
  go_enter Try.func31, Try.ntmps31
  go_wp2_with (first | (at_len; refine wpList_len_own _ rfl _ 27 rfl 3 22 Try.underlying27 rawR b1 n1 D1 rfl hown1.out ?_; rw [hz1.out]) | (at_len; refine wpList_len_own _ rfl _ 27 rfl 3 22 Try.underlying27 rawR b2 n2 D2 rfl hown2.out ?_; rw [hz2.out]) | (at_range; refine wpList_rng rfl _ 27 rfl Try.underlying3 Try.underlying27 rfl hV1.out ?_; intro w0 cnt0 hc0 hr0 hb0 hs0))
  go_frame
  replace hr0 := Aside0.mk hr0
  replace hb0 := Aside0.mk hb0
  clear hs0 hown1 hown2 hz1 hz2
  go_loopg [7] cnt0 (fun gg v7 wr => ∃ (lf : Int → Bool) (cnt : Nat), cnt ≤ gg ∧ Aside0 (RngV Try.prog 3 wr b1 w.heap.size n1 f1 lf cnt) ∧ Aside0 (Below w.heap.size w wr))
  case atStart => exact ⟨_, cnt0, Nat.le_refl _, hr0, hb0⟩
  case round =>
    obtain ⟨lf, cnt, hcg, hrg, hB⟩ := hrel
    go_wp2_with (first | (at_next; refine wpList_nxt rfl _ rfl Try.underlying3 rfl hrg.out ?_ ?_))
    · intro hc0' hl0
      clear hl0 hc0'
      go_wp2
      go_ret
      exact ⟨rfl, hB.out⟩
    · intro x v w1 cnt1 hwx hlx hfx hrg1 hltc hg1 hs1 hen
      obtain ⟨m, hm⟩ : ∃ m, F x = some m := by
        cases hFx : F x with
        | none => rw [hf0.out x hFx] at hfx; cases hfx
        | some m => exact ⟨m, rfl⟩
      obtain ⟨v', hv', hrow⟩ := hf1.out x m hm
      rw [hfx] at hv'
      cases hv'
      obtain ⟨Av, cv, rfl, hlv, hCv⟩ := hrow
      have hB1 := Aside0.mk (pw_below_grown hB.out (some w.heap.size) hB.out.size hg1 (fun j hj => by cases hj; exact Nat.le_refl _))
      have hCw := Aside0.mk (Kd.C_below hCv hB1.out)
      replace hm := Aside0.mk hm
      replace hlv := Aside0.mk hlv
      replace hrg1 := Aside0.mk hrg1
      replace hwx := Aside0.mk hwx
      have CE := Aside0.mk (fun A2 c2 X h1 h2 h3 => bytes_Equal.calls Av cv m A2 c2 m true X h1 hlv.out h2 h3 (by unfold bytes_Equal.f; simp))
      clear hfx hlx hCv hs1 hg1
      go_wp2_with (first | (at_lookup; refine wpList_look_ok rfl _ _ 27 rfl Try.underlying3 Try.underlying27 (zero22 _) rfl (hM2.out.below hB1.out) rfl hwx.out ?_; rw [hm.out]; simp only [Option.getD_some, Option.isSome_some]; intro A2 c2 hl2 hC2) | (go_at_fn 32; (refine (CE.out A2 c2 _ hCw.out hC2 hl2).mono ?_); rintro e Y ⟨rfl, hbY⟩))
      go_roundg cnt1
      case measure => omega
      case rel => exact ⟨_, cnt1, Nat.le_refl _, ⟨hrg1.out.below hbY.below⟩, ⟨below_step hB1.out hbY.below⟩⟩
theorem same_calls (b1 b2 n1 n2 : Nat) (F : Int → Option (List Int)) (w : World) (hm1 : MB w b1 n1 F) (hm2 : MB w b2 n2 F) :
    Calls Try.prog 19 #[.map (some b1), .map (some b2)] w fun e w' => e = .returned (.bool true) ∧ Below w.heap.size w w' := by
  have CE := Aside0.mk (equal_calls b1 b2 n1 n2 F w hm1 hm2)
  clear hm1 hm2
  go_enter Try.func19, Try.ntmps19
  go_wp2_with (go_at_call 31; refine CE.out.mono ?_; rintro e X ⟨rfl, hb⟩)
  go_ret
  exact ⟨rfl, hb⟩
end Go.Proofs.Ytiecjkkjcdjndaa.Asm
namespace Go.Proofs.Ytiecjkkjcdjndaa.Asm
open Go Go.RowKit Go.Shelf Go.Proofs Go.Proofs.Ytiecjkkjcdjndaa.Xw Go.Proofs.Ytiecjkkjcdjndaa.PAll Go.Proofs.YtiecjkkjcdjndaaW.PrintWords Go.Proofs.YtiecjkkjcdjndaaW.PrintLast Go.Proofs.YtiecjkkjcdjndaaW.PrintMore Go.Proofs.Ytiecjkkjcdjndaa.Mp Go.Proofs.Ytiecjkkjcdjndaa.Pure
attribute [local go_sem] Oper.semAt_some
theorem info3 : (Try.prog.info? 3).map (fun i => (i.zero, i.size, i.bytes)) = some (some (.int .i64 0), 1, 8) := by kernel_rfl
def hv (F : Int → Option (List Int)) (n s : Int) (k : Nat) : List Int := ((List.range k).map fun j : Nat => (j : Int)).filter (hasP F n s)
theorem hv_yes {F : Int → Option (List Int)} {n s : Int} {k : Nat} (h : hasP F n s (k : Int) = true) : hv F n s (k + 1) = hv F n s k ++ [(k : Int)] := by
  unfold hv
  rw [List.range_succ, List.map_append, List.filter_append]
  simp [h]
theorem hv_no {F : Int → Option (List Int)} {n s : Int} {k : Nat} (h : hasP F n s (k : Int) = false) : hv F n s (k + 1) = hv F n s k := by
  unfold hv
  rw [List.range_succ, List.map_append, List.filter_append]
  simp [h]
theorem hv_len (F : Int → Option (List Int)) (n s : Int) (k : Nat) : (hv F n s k).length ≤ k := by
  unfold hv
  refine Nat.le_trans (List.length_filter_le _ _) ?_
  simp
theorem hv_mem {F : Int → Option (List Int)} {n s : Int} {k : Nat} {x : Int} : x ∈ hv F n s k ↔ 0 ≤ x ∧ x < k ∧ hasP F n s x = true := by
  unfold hv
  simp only [List.mem_filter, List.mem_map, List.mem_range]
  constructor
  · rintro ⟨⟨j, hj, rfl⟩, h⟩
    exact ⟨by omega, by omega, h⟩
  · rintro ⟨h0, h1, h⟩
    exact ⟨⟨x.toNat, by omega, by omega⟩, h⟩
set_option maxRecDepth 100000 in
set_option maxHeartbeats 4000000 in
theorem have_calls (b cnt0 : Nat) (F : Int → Option (List Int)) (n s : Int) (w : World) (hm : MB w b cnt0 F) :
    Calls Try.prog 20 #[.map (some b), .int .i64 n, .int .i64 s] w fun e w' => ∃ v, e = .returned v ∧ w'.ownsRow w.heap.size 3 1 v (hv F n s (cnt n s).toNat).length (nums .i64 (hv F n s (cnt n s).toNat)) ∧ Below w.heap.size w w' := by
  have CC := cuts_Count.calls n s _ w (count_eq n s)
  have hcb : 0 ≤ cnt n s ∧ cnt n s ≤ 4096 := by
    by_cases hr : CR n s
    · have := cnt_bd hr; have := hr.2.1; omega
    · unfold cnt; rw [if_neg hr]; omega
  obtain ⟨m, hmm⟩ : ∃ m : Nat, cnt n s = m := ⟨(cnt n s).toNat, by omega⟩
  rw [hmm] at CC hcb ⊢
  clear hmm
  rw [Int.toNat_natCast]
  replace CC := Aside0.mk CC
  replace hm := Aside0.mk hm
  go_enter Try.func20, Try.ntmps20
  go_wp2_with (go_at_call 33; refine CC.out.mono ?_; rintro e X1 ⟨rfl, hb1⟩)
  replace hb1 := Aside0.mk hb1
  go_loopg [7, 12] m (fun gg v7 v12 wr => ∃ j : Nat, v12 = .int .i64 j ∧ j ≤ m ∧ m - j ≤ gg ∧ Aside0 (wr.ownsRow w.heap.size 3 1 v7 (hv F n s j).length (nums .i64 (hv F n s j))) ∧ Aside0 (Below w.heap.size w wr))
  case atStart => exact ⟨0, rfl, Nat.zero_le _, by omega, ⟨own_nil _ _ _ _⟩, ⟨by first | exact hb1.out | exact hb1.out.below⟩⟩
  case round =>
    obtain ⟨j, rfl, hj, hgg, hO, hB⟩ := hrel
    by_cases hlt : j < m
    · have hltz : (j : Int) < (m : Int) := by omega
      have CH := has_calls b cnt0 F (j : Int) n s (WalkArith.wf_i64 (by omega)) _ (hm.out.below hB.out)
      have hl := hv_len F n s j
      cases hP : hasP F n s (j : Int) with
      | false =>
        rw [hP] at CH
        replace CH := Aside0.mk CH
        go_wp2_with (go_at_call 26; refine CH.out.mono ?_; rintro e X ⟨rfl, hb⟩)
        go_roundg (m - (j + 1))
        case measure => omega
        case rel => exact ⟨j + 1, by go_num, by omega, by omega, ⟨by rw [hv_no hP]; exact pw_own_below hO.out hb⟩, ⟨below_step hB.out hb⟩⟩
      | true =>
        rw [hP] at CH
        replace CH := Aside0.mk CH
        go_wp2_with (first | (go_at_call 26; refine CH.out.mono ?_; rintro e X ⟨rfl, hb⟩) | (at_builtin; refine print_append_num (w0 := w) w.heap.size rfl _ _ 29 3 .i64 8 rfl Try.underlying29 info3 (by decide) _ (hv F n s j) (j : Int) rfl rfl (pw_own_below hO.out hb) (below_step hB.out hb) (below_step hB.out hb).size (by omega) ?_; intro v1 w1 hown hB1 hgr hloc))
        go_roundg (m - (j + 1))
        case measure => omega
        case rel => exact ⟨j + 1, by go_num, by omega, by omega, ⟨by rw [hv_yes hP]; exact hown⟩, ⟨hB1⟩⟩
    · have hjm : j = m := by omega
      subst hjm
      have hltz : ¬ (j : Int) < (j : Int) := by omega
      go_wp2
      go_ret
      exact ⟨_, rfl, hO.out, hB.out⟩
end Go.Proofs.Ytiecjkkjcdjndaa.Asm
namespace Go.Proofs.Ytiecjkkjcdjndaa.Asm
open Go Go.RowKit Go.Shelf Go.Proofs Go.Proofs.Ytiecjkkjcdjndaa.Xw Go.Proofs.Ytiecjkkjcdjndaa.PAll Go.Proofs.YtiecjkkjcdjndaaW.PrintWords Go.Proofs.YtiecjkkjcdjndaaW.PrintLast Go.Proofs.YtiecjkkjcdjndaaW.PrintMore Go.Proofs.Ytiecjkkjcdjndaa.Mp Go.Proofs.Ytiecjkkjcdjndaa.Pure
attribute [local go_sem] Oper.semAt_some
abbrev SP := S31
theorem info44 : (Try.prog.info? 44).map (fun i => (i.zero, i.size, i.bytes)) = some (some (.agg #[.int .i64 0, .int .i64 0, .slice none 0 0]), 3, 40) := by kernel_rfl
/-- the cells of parts: their spans, and slices that own their bytes -/
def PCells (w : World) (base : Nat) : List (SP × List Int) → List Value → Prop
  | [], xs => xs = []
  | p :: ps, xs => ∃ u rest, xs = .int .i64 p.1.f0 :: .int .i64 p.1.f1 :: u :: rest ∧ w.ownsRow base 5 1 u p.2.length (nums .u8 p.2) ∧ PCells w base ps rest
theorem PCells.snoc {w : World} {base : Nat} {x : SP} {b : List Int} {u : Value} (hu : w.ownsRow base 5 1 u b.length (nums .u8 b)) : ∀ {ps : List (SP × List Int)} {xs : List Value}, PCells w base ps xs → PCells w base (ps ++ [(x, b)]) (xs ++ [.int .i64 x.f0, .int .i64 x.f1, u])
  | [], xs, h => by
    have h : xs = [] := h
    subst h
    exact ⟨u, [], rfl, hu, rfl⟩
  | p :: ps, xs, h => by
    obtain ⟨v, rest, rfl, hv, hr⟩ := h
    exact ⟨v, rest ++ _, rfl, hv, PCells.snoc hu hr⟩
theorem PCells.move {w w' : World} {base : Nat} (hk : ∀ (k : Nat) (cs : Array Value), w.heap[k]? = some (.cells cs 5 (0, 0)) → w'.heap[k]? = w.heap[k]?) : ∀ {ps : List (SP × List Int)} {xs : List Value}, PCells w base ps xs → PCells w' base ps xs
  | [], _, h => h
  | p :: ps, xs, h => by
    obtain ⟨v, rest, rfl, hv, hr⟩ := h
    refine ⟨v, rest, rfl, own_move hv (fun k e => ?_), PCells.move hk hr⟩
    obtain ⟨cs, hcs⟩ := own_typed hv k e
    exact hk k cs hcs
theorem PCells.below {w w' : World} {base : Nat} (hb : Below w.heap.size w w') {ps : List (SP × List Int)} {xs : List Value} (h : PCells w base ps xs) : PCells w' base ps xs := h.move fun k _ hk => hb.block k (blk_lt hk)
theorem PCells.at_ {w : World} {base : Nat} : ∀ {ps : List (SP × List Int)} {xs : List Value}, PCells w base ps xs → ∀ (j : Nat) (p : SP × List Int), ps[j]? = some p →
    ∃ u, xs[3 * j]? = some (.int .i64 p.1.f0) ∧ xs[3 * j + 1]? = some (.int .i64 p.1.f1) ∧ xs[3 * j + 2]? = some u ∧ w.ownsRow base 5 1 u p.2.length (nums .u8 p.2)
  | [], _, _, j, p, hj => by simp at hj
  | q :: ps, xs, h, j, p, hj => by
    obtain ⟨v, rest, rfl, hv, hr⟩ := h
    cases j with
    | zero =>
      obtain rfl : q = p := by simpa using hj
      exact ⟨v, rfl, rfl, rfl, hv⟩
    | succ j =>
      obtain ⟨u, h1, h2, h3, h4⟩ := PCells.at_ hr j p (by simpa using hj)
      refine ⟨u, ?_, ?_, ?_, h4⟩
      · rw [show 3 * (j + 1) = 3 * j + 1 + 1 + 1 by omega]; simpa using h1
      · rw [show 3 * (j + 1) + 1 = 3 * j + 1 + 1 + 1 + 1 by omega]; simpa using h2
      · rw [show 3 * (j + 1) + 2 = 3 * j + 2 + 1 + 1 + 1 by omega]; simpa using h3
def PRow (w : World) (base : Nat) (v : Value) (ps : List (SP × List Int)) : Prop := ∃ xs, w.ownsRow base 44 3 v ps.length xs ∧ PCells w base ps xs
theorem PRow.nil (w : World) (base : Nat) : PRow w base (.slice none 0 0) [] := ⟨[], own_nil _ _ _ _, rfl⟩
theorem PRow.below {w w' : World} {base : Nat} {v : Value} {ps : List (SP × List Int)} (h : PRow w base v ps) (hb : Below w.heap.size w w') : PRow w' base v ps := by
  obtain ⟨xs, h1, h2⟩ := h
  exact ⟨xs, pw_own_below h1 hb, h2.below hb⟩
/-- one part more -/
theorem PRow.append {W : World} {base : Nat} {v u : Value} {ps : List (SP × List Int)} {x : SP} {b : List Int} (h : PRow W base v ps) (hbase : base ≤ W.heap.size) (hlen : ps.length ≤ 1000000) (hu : W.ownsRow base 5 1 u b.length (nums .u8 b)) :
    ∃ v1 w1, (Builtin.append_ #[40, 40] 40 #[v, .slice (some ⟨W.heap.size, 0, none⟩) 1 1]).run Try.prog (W.alloc (.cells #[.int .i64 x.f0, .int .i64 x.f1, u] 44)) = .ok v1 w1 ∧ PRow w1 base v1 (ps ++ [(x, b)]) ∧ (∀ g, g < base → g < W.heap.size → w1.heap[g]? = W.heap[g]?) ∧ W.heap.size ≤ w1.heap.size ∧ w1.os = W.os ∧ w1.tape = W.tape ∧ w1.output = W.output := by
  obtain ⟨xs, h1, h2⟩ := h
  obtain ⟨Au, cu, rfl⟩ := own_slice hu
  obtain ⟨i0, hi, hzz⟩ := Option.map_eq_some_iff.1 info44
  simp only [Prod.mk.injEq] at hzz
  obtain ⟨hz0, hz1, hz2⟩ := hzz
  have hnew := blk_new W (.cells #[.int .i64 x.f0, .int .i64 x.f1, .slice Au b.length cu] 44)
  obtain ⟨v1, w1, hr, h3, h4, _, h5⟩ := run_append_own_at (P := Try.prog) (W.alloc (.cells #[.int .i64 x.f0, .int .i64 x.f1, .slice Au b.length cu] 44)) base 40 40 44 i0 (.agg #[.int .i64 0, .int .i64 0, .slice none 0 0]) 3 40 Try.underlying40 hi hz0 hz1 hz2 rfl (by omega) v ps.length xs (h1.alloc _)
    ⟨W.heap.size, 0, none⟩ 1 1 [.int .i64 x.f0, .int .i64 x.f1, .slice Au b.length cu] rfl (World.news_of_block (cs := #[.int .i64 x.f0, .int .i64 x.f1, .slice Au b.length cu]) (t := 44) (fr := (0, 0)) hnew)
    (by intro u hu; simp only [List.mem_cons, List.not_mem_nil, or_false] at hu; rcases hu with rfl | rfl | rfl <;> rfl) (by simp only [maxLen]; omega) (by omega) (by rw [alloc_size]; omega)
  have hne := fun k cs (hk : (W.alloc (.cells #[.int .i64 x.f0, .int .i64 x.f1, .slice Au b.length cu] 44)).heap[k]? = some (.cells cs 5 (0, 0))) => (fun e => by
    obtain ⟨cs', hcs⟩ := own_typed (h1.alloc (.cells #[.int .i64 x.f0, .int .i64 x.f1, .slice Au b.length cu] 44)) k e.symm
    rw [hk] at hcs
    injection hcs with hcs
    injection hcs with _ h6
    exact absurd h6 (by decide) : ¬ some k = v.ownBlock)
  have hc2 : PCells w1 base (ps ++ [(x, b)]) (xs ++ [.int .i64 x.f0, .int .i64 x.f1, .slice Au b.length cu]) := by
    have hA := PCells.below (below_alloc (Below.refl _ W) (.cells #[.int .i64 x.f0, .int .i64 x.f1, .slice Au b.length cu] 44)) h2
    have hB := PCells.snoc (x := x) (b := b) (own_alloc hu (.cells #[.int .i64 x.f0, .int .i64 x.f1, .slice Au b.length cu] 44)) hA
    exact hB.move fun k cs hk => h4.block k (blk_lt hk) (hne k cs hk)
  refine ⟨v1, w1, hr, ⟨_, by simpa using h3, hc2⟩, fun g hg hlt => ?_, ?_, h4.os, h4.tape, h4.output⟩
  · have e1 := h4.block g (by rw [alloc_size]; omega) (fun e => by
      have := own_base h1 g e.symm
      omega)
    rw [e1]
    exact (below_alloc (Below.refl _ W) _).block g hlt
  · have := h4.size
    rw [alloc_size] at this
    omega
/-- the law at the operation, where the run is known up to what it leaves -/
theorem wpList_append_ex {P : Program} {ops : Array Oper} {rest : List Oper} {o : Oper} {a : Act} {Q : Exit → Act → World → Prop} {W : World} {R : Value → World → Prop} (hg : o.guard = none) (s x : Operand) (t u : TypeId) (ho : o.op = .call { callee := .builtin .append, args := #[s, x], argTypes := #[t, u] })
    {v y : Value} (hs : a.eval s = v) (hx : a.eval x = y) (hrun : ∃ v1 w1, (Builtin.append_ #[t, u] o.type #[v, y]).run P W = .ok v1 w1 ∧ R v1 w1) (hK : ∀ v1 w1, R v1 w1 → wpList P ops Q rest (a.put o.dst v1) w1) : wpList P ops Q (o :: rest) a W := by
  obtain ⟨v1, w1, hr, hR⟩ := hrun
  refine wpList_plain hg fun K hK' => ?_
  unfold Oper.wp execOp
  simp only [ho, resolve, invoke, builtin, Sem.run_bind, Sem.run_pure, Result.andThen_ok, List.map_toArray, List.map_cons, List.map_nil, hs, hx, hr]
  exact hK' _ _ (hK v1 w1 hR)
end Go.Proofs.Ytiecjkkjcdjndaa.Asm
namespace Go.Proofs.Ytiecjkkjcdjndaa.Asm
open Go Go.RowKit Go.Shelf Go.Proofs Go.Proofs.Ytiecjkkjcdjndaa.Xw Go.Proofs.Ytiecjkkjcdjndaa.PAll Go.Proofs.YtiecjkkjcdjndaaW.PrintWords Go.Proofs.YtiecjkkjcdjndaaW.PrintLast Go.Proofs.YtiecjkkjcdjndaaW.PrintMore Go.Proofs.Ytiecjkkjcdjndaa.Mp Go.Proofs.Ytiecjkkjcdjndaa.Pure
attribute [local go_sem] Oper.semAt_some
/-- what the law asks of one place -/
theorem have_place {F : Int → Option (List Int)} {n s i : Int} : (hv F n s (cnt n s).toNat).any (fun x => x == i) = ((F i).isSome && (decide (0 < (bnd i n s).2) && decide ((((F i).getD []).length : Int) = (bnd i n s).2 - (bnd i n s).1))) := by
  have hp := bnd_pos i n s
  rw [Bool.eq_iff_iff, List.any_eq_true]
  simp only [beq_iff_eq, exists_eq_right, Bool.and_eq_true, decide_eq_true_eq]
  rw [hv_mem]
  unfold hasP slotLen
  simp only [Bool.and_eq_true, decide_eq_true_eq]
  constructor
  · rintro ⟨_, _, h1, h2, h3⟩
    have h4 := hp.2.2.1 h1
    rw [if_pos ⟨by omega, by omega, by omega⟩] at h3
    exact ⟨h2, by omega, h3⟩
  · rintro ⟨h2, h3, h4⟩
    have h1 := hp.1.1 h3
    have h5 := hp.2.2.1 h1
    have h6 := (lt_cnt h1.1).2 h1.2.2
    refine ⟨h1.2.1, by omega, h1, h2, ?_⟩
    rw [if_pos ⟨by omega, by omega, by omega⟩]
    exact h4
set_option linter.unusedSimpArgs false in
set_option linter.unusedVariables false in
set_option maxRecDepth 100000 in
set_option maxHeartbeats 8000000 in
theorem adds_law (A : Option Addr) (c : Nat) (l : List PC) (A2 : Option Addr) (c2 : Nat) (k : List PC) (n s i : Int) (w : World) (hC : k49.C w A l.length l) (hC2 : k49.C w A2 k.length k)
    (hsl : ∀ p ∈ l, Short p.f3 ∧ (Lit.int .i64 p.f2).wf = true) (hsk : ∀ p ∈ k, Short p.f3 ∧ (Lit.int .i64 p.f2).wf = true) (hi : (Lit.int .i64 i).wf = true) :
    Calls Try.prog 5 #[.slice A l.length c, .slice A2 k.length c2, .int .i64 n, .int .i64 s, .int .i64 i] w fun e w' => e = .returned (.bool true) ∧ Below w.heap.size w w' := by
  have CAw := Aside0.mk awake_calls
  have h9 := blk_new w (.cells #[.int .i64 i] 3 (0, 0))
  have hBA := below_alloc (Below.refl w.heap.size w) (.cells #[.int .i64 i] 3 (0, 0))
  obtain ⟨wA, hwA⟩ : ∃ X, w.alloc (.cells #[.int .i64 i] 3 (0, 0)) = X := ⟨_, rfl⟩
  rw [hwA] at h9 hBA
  have HW := Aside0.mk hwA
  clear hwA
  have hS9 : ∀ X, Below wA.heap.size wA X → X.cell? ⟨w.heap.size, 0, none⟩ = some (.int .i64 i) := fun X h => (blk_cell (blk_below h9 h) 0).trans rfl
  replace hC := Aside0.mk hC
  replace hC2 := Aside0.mk hC2
  replace hBA := Aside0.mk hBA
  replace h9 := Aside0.mk h9
  by_cases g0 : (l.length : Int) > 30
  · have d0 : decide ((l.length : Int) > 30) = true := decide_eq_true g0
    have e0 : decide (30 < (l.length : Int)) = true := decide_eq_true g0
    replace g0 := Aside0.mk g0
    go_enter Try.func5, Try.ntmps5
    go_wp2_with (go_at_call 6; rw [HW.out]; refine (CAw.out _).mono ?_; rintro e X1 ⟨rfl, hb1⟩)
    go_ret
    exact ⟨rfl, below_step hBA.out hb1⟩
  have d0 : decide ((l.length : Int) > 30) = false := decide_eq_false g0
  have e0 : decide (30 < (l.length : Int)) = false := decide_eq_false g0
  by_cases g1 : (k.length : Int) > 30
  · have d1 : decide ((k.length : Int) > 30) = true := decide_eq_true g1
    have e1 : decide (30 < (k.length : Int)) = true := decide_eq_true g1
    replace g0 := Aside0.mk g0
    replace g1 := Aside0.mk g1
    go_enter Try.func5, Try.ntmps5
    go_wp2_with (go_at_call 6; rw [HW.out]; refine (CAw.out _).mono ?_; rintro e X1 ⟨rfl, hb1⟩)
    go_ret
    exact ⟨rfl, below_step hBA.out hb1⟩
  have d1 : decide ((k.length : Int) > 30) = false := decide_eq_false g1
  have e1 : decide (30 < (k.length : Int)) = false := decide_eq_false g1
  have hll : l.length ≤ 30 := by omega
  have hkl : k.length ≤ 30 := by omega
  replace g0 := Aside0.mk g0
  replace g1 := Aside0.mk g1
  have hF1w : ∀ j, addP (fun _ => none) l j ≠ none → (Lit.int .i64 j).wf = true := fun j hj => by
    cases hm : addP (fun _ => none) l j with
    | none => exact absurd hm hj
    | some m =>
      rcases addP_some hm with h | ⟨p, hp, rfl, _⟩
      · cases h
      · exact (hsl p hp).2
  have hF1s : ∀ j m, addP (fun _ => none) l j = some m → Short m := fun j m hm => by
    rcases addP_some hm with h | ⟨p, hp, _, rfl⟩
    · cases h
    · exact (hsl p hp).1
  have CN := Aside0.mk (fun X h => add_nil A c l (by omega) X h hsl)
  have CM := Aside0.mk (fun b n0 X hn0 hM h => add_map b n0 (addP (fun _ => none) l) A2 c2 k (by omega) hn0 X hM hF1w hF1s h hsk)
  have CFl := fun X h h' => find_calls A c l (by omega) i w.heap.size X h h'
  have CFb := fun A' c' X h h' => find_calls A' c' (l ++ k) (by rw [List.length_append]; omega) i w.heap.size X h h'
  have CSa := Aside0.mk (fun b b' n1 n2 X h1 h2 => same_calls b b' n1 n2 (addP (fun _ => none) l) X h1 h2)
  have CHv := fun b n1 X h => have_calls b n1 (addP (fun _ => none) l) n s X h
  have CBo := fun X => spenceref04_Bounds.calls 1 i n s (bnd i n s).1 (bnd i n s).2 X (ref_bounds_eq 0 i n s)
  have hpl := have_place (F := addP (fun _ => none) l) (n := n) (s := s) (i := i)
  rw [find_append] at CFb
  obtain ⟨LK, hLK⟩ : ∃ z, l ++ k = z := ⟨_, rfl⟩
  rw [hLK] at CFb
  replace hLK := Aside0.mk hLK
  rw [show findP i l = addP (fun _ => none) l i from rfl] at CFl
  have CBy := Aside0.mk (fun (A1 : Option Addr) (c1 : Nat) (A6 : Option Addr) (c6 : Nat) (ys : List Int) (hy : ys.length ≤ 9223372036854775807) X h1 h2 h3 h4 => spenceref01_Bytes.calls (bytes_ev ys ys hy).choose A1 c1 ys A6 c6 ys true X h1 h2 h3 h4 (((bytes_ev ys ys hy).choose_spec _ (Nat.le_refl _)).trans (by rw [decide_eq_true rfl])))
  have hmax : ∀ (X : World) (A' : Option Addr) (ys : List Int), (Kd.int .u8).C X A' ys.length ys → ys.length ≤ 9223372036854775807 := fun X A' ys h => h.2.1
  generalize hG2 : addP (addP (fun _ => none) l) k = F2 at CM CFb
  generalize hG1 : addP (fun _ => none) l = F1 at CN CM CFl CSa CHv hpl
  clear hG1 hG2 hF1w hF1s
  obtain ⟨q1, hq1⟩ : ∃ q, (F1 i).isSome = q := ⟨_, rfl⟩
  obtain ⟨m1, hm1⟩ : ∃ m, (F1 i).getD [] = m := ⟨_, rfl⟩
  obtain ⟨q2, hq2⟩ : ∃ q, (F2 i).isSome = q := ⟨_, rfl⟩
  obtain ⟨m2, hm2⟩ : ∃ m, (F2 i).getD [] = m := ⟨_, rfl⟩
  have hxy : 0 < (bnd i n s).2 → IntKind.i64.wrap ((bnd i n s).2 - (bnd i n s).1) = (bnd i n s).2 - (bnd i n s).1 := fun h => by
    have h4 := bnd_pos i n s
    have h5 := h4.2.2.1 (h4.1.1 h)
    exact (i64_w _).trans (wrap_id (by omega))
  rw [hq1, hm1] at CFl hpl
  rw [hq2, hm2] at CFb
  generalize (bnd i n s).1 = x at CBo hpl hxy
  generalize (bnd i n s).2 = y at CBo hpl hxy
  replace hxy := Aside0.mk hxy
  have hHl : (hv F1 n s (cnt n s).toNat).length ≤ 4096 := by
    have h1 := hv_len F1 n s (cnt n s).toNat
    have h2 : cnt n s ≤ 4096 := by
      by_cases hr : CR n s
      · have h3 := cnt_bd hr; have h4 := hr.2.1; omega
      · unfold cnt; rw [if_neg hr]; omega
    omega
  generalize hv F1 n s (cnt n s).toNat = H at CHv hpl hHl
  replace CFl := Aside0.mk CFl
  replace CFb := Aside0.mk CFb
  replace CHv := Aside0.mk CHv
  replace CBo := Aside0.mk CBo
  replace hpl := Aside0.mk hpl
  replace hq1 := Aside0.mk hq1
  replace hm1 := Aside0.mk hm1
  replace hq2 := Aside0.mk hq2
  replace hm2 := Aside0.mk hm2
  replace hmax := Aside0.mk hmax
  replace hsl := Aside0.mk hsl
  replace hsk := Aside0.mk hsk
  replace hi := Aside0.mk hi
  have eg := find_enters
  go_enter Try.func5, Try.ntmps5
  go_wp2_with (first
    | (go_at_call 6; rw [HW.out]; (with_reducible refine (CAw.out _).mono ?_); rintro e X1 ⟨rfl, hb1⟩)
    | (go_at_call 17; have hzz := hb9; (refine (CN.out _ (Kd.C_below hC.out (below_step hBA.out hX9))).mono ?_); rintro e XA ⟨b3, rfl, nA, hMA, hnA, hbA⟩; have hXA := below_step hX9 hbA; replace hM1 := Aside0.mk (hM1.out.below hbA); replace hMA := Aside0.mk hMA; replace hCa := Aside0.mk (Kd.C_below hCa.out hbA))
    | (go_at_call 17; have hzz := hb2; (refine (CM.out b1 n1 _ (by omega) hM1.out (Kd.C_below hC2.out (below_step hBA.out hX2))).mono ?_); rintro e X3 ⟨b2, rfl, n2, hM2, hn2, hb3⟩; have hX3 := below_step hX2 hb3; replace hM1 := Aside0.mk (hM1.out.below hb3); replace hM2 := Aside0.mk hM2)
    | (go_at_call 17; (refine (CN.out _ (Kd.C_below hC.out (below_step hBA.out hb1))).mono ?_); rintro e X2 ⟨b1, rfl, n1, hM1, hn1, hb2⟩; have hX2 := below_step hb1 hb2; replace hM1 := Aside0.mk hM1)
    | (at_lookup; refine wpList_look_ok rfl _ _ 27 rfl Try.underlying3 Try.underlying27 (zero22 _) rfl hM1.out rfl hi.out ?_; rw [hq1.out, hm1.out]; intro Aa ca hla hCa; replace hla := Aside0.mk hla; replace hCa := Aside0.mk hCa)
    | (at_lookup; refine wpList_look_ok rfl _ _ 27 rfl Try.underlying3 Try.underlying27 (zero22 _) rfl hM2.out rfl hi.out ?_; rw [hq2.out, hm2.out]; intro Ac cc hlc hCc; replace hlc := Aside0.mk hlc; replace hCc := Aside0.mk hCc)
    | (go_at_fn 18; have hzz := hC6; (refine (CFb.out A6 c6 _ hC6.out (blk_below h9.out hX6)).mono ?_); rintro e X7 ⟨vd, rfl, ⟨Ad, cd, rfl, hld, hCd⟩, hb7⟩; have hX7 := below_step hX6 hb7; replace hM1 := Aside0.mk (hM1.out.below hb7); replace hCd := Aside0.mk hCd; replace hld := Aside0.mk hld; replace hCa := Aside0.mk (Kd.C_below hCa.out hb7); replace hCb := Aside0.mk (Kd.C_below hCb.out hb7); replace hCc := Aside0.mk (Kd.C_below hCc.out hb7))
    | (go_at_fn 18; (refine (CFl.out _ (Kd.C_below hC.out (below_step hBA.out hX3)) (blk_below h9.out hX3)).mono ?_); rintro e X4 ⟨vb, rfl, ⟨Ab, cb, rfl, hlb, hCb⟩, hb4⟩; have hX4 := below_step hX3 hb4; replace hM1 := Aside0.mk (hM1.out.below hb4); replace hM2 := Aside0.mk (hM2.out.below hb4); replace hCb := Aside0.mk hCb; replace hlb := Aside0.mk hlb; replace hCa := Aside0.mk (Kd.C_below hCa.out hb4))
    | (at_builtin; have hzz := hQ5; refine wpList_append_ex rfl _ _ 46 46 rfl rfl rfl (QRow.append (c := c2) hQ5.out hb5.size (below_step hBA.out (below_step hX4 hb5)) (by omega) hC2.out) ?_; rintro v6 X6 ⟨hQ6, hb6⟩; have hb46 := hb5.trans hb6; have hX6 := below_step hX4 hb46; rw [hLK.out] at hQ6; obtain ⟨A6, c6, rfl, hC6⟩ := hQ6.reads (below_step hBA.out hX6) (by rw [← hLK.out, List.length_append]; omega); replace hC6 := Aside0.mk hC6; clear hQ6; replace hM1 := Aside0.mk (hM1.out.below hb46); replace hCa := Aside0.mk (Kd.C_below hCa.out hb46); replace hCb := Aside0.mk (Kd.C_below hCb.out hb46); replace hCc := Aside0.mk (Kd.C_below hCc.out hb46))
    | (at_builtin; refine wpList_append_ex rfl _ _ 46 46 rfl rfl rfl (QRow.append (c := c) (QRow.nil X4 w X4.heap.size) (Nat.le_refl _) (below_step hBA.out hX4) (by simp; omega) hC.out) ?_; rintro v5 X5 ⟨hQ5, hb5⟩; replace hQ5 : Aside0 (QRow X5 w X4.heap.size v5 l) := ⟨hQ5⟩)
    | (go_at_call 10; have hzz := hb8; (refine (CBy.out Ac cc Ad cd m2 (hmax.out _ _ _ hCc.out) _ hCc.out hlc.out hCd.out hld.out).mono ?_); rintro e X9 ⟨rfl, hb9⟩; have hX9 := below_step hX8 hb9.below; replace hM1 := Aside0.mk (hM1.out.below hb9.below); replace hCa := Aside0.mk (Kd.C_below hCa.out hb9.below))
    | (go_at_call 10; (refine (CBy.out Aa ca Ab cb m1 (hmax.out _ _ _ hCa.out) _ hCa.out hla.out hCb.out hlb.out).mono ?_); rintro e X8 ⟨rfl, hb8⟩; have hX8 := below_step hX7 hb8.below; replace hM1 := Aside0.mk (hM1.out.below hb8.below); replace hCa := Aside0.mk (Kd.C_below hCa.out hb8.below); replace hCc := Aside0.mk (Kd.C_below hCc.out hb8.below); replace hCd := Aside0.mk (Kd.C_below hCd.out hb8.below))
    | (go_at_call 19; (refine (CSa.out b1 b3 n1 nA _ hM1.out hMA.out).mono ?_); rintro e XB ⟨rfl, hbB⟩; have hXB := below_step hXA hbB; replace hM1 := Aside0.mk (hM1.out.below hbB); replace hCa := Aside0.mk (Kd.C_below hCa.out hbB))
    | (go_at_call 20; (refine (CHv.out b1 n1 _ hM1.out).mono ?_); rintro e XC ⟨vH, rfl, hOH, hbC⟩; obtain ⟨AH, cH, rfl, hRH⟩ := own_reads hOH; have hXC := Aside0.mk (below_step hXB hbC); have hCH : Aside0 ((Kd.int .i64).C XC AH H.length H) := ⟨Kd.C_of_reads (d := (0 : Int)) hRH⟩; replace hCa := Aside0.mk (Kd.C_below hCa.out hbC)))
  have h9C := Aside0.mk (blk_below h9.out hXC.out)
  have hWC := Aside0.mk (below_step hBA.out hXC.out)
  clear hb1 hX2 hb2 hb3 hX3 hb4 hX4 hb5 hb6 hb46 hX6 hX7 hX8 hX9 hb7 hb8 hb9 hbA hXA hbB hXB hbC hOH hRH hn1 hn2 hnA hS9
  clear hM1 hM2 hMA hCb hCc hCd hC6 hQ5 hla hlb hlc hld eg CN CM CFl CFb CSa CHv CBy CAw
  go_loopg [22, 101] H.length (fun gg v22 v101 wr => ∃ (j : Nat) (z : Bool), v22 = .bool z ∧ v101 = .int .i64 j ∧ j ≤ H.length ∧ H.length - j ≤ gg ∧ Aside0 ((H.take j).any (fun x => x == i) = z) ∧ Aside0 (Below XC.heap.size XC wr))
  case atStart => exact ⟨0, false, rfl, rfl, Nat.zero_le _, by omega, ⟨by simp⟩, ⟨Below.refl _ _⟩⟩
  case round =>
    obtain ⟨j, z, rfl, rfl, hj, hgg, hz, hB⟩ := hrel
    have hq9 : wr.cell? ⟨w.heap.size, 0, none⟩ = some (.int .i64 i) := (blk_cell (blk_below h9C.out hB.out) 0).trans rfl
    by_cases hlt : j < H.length
    · have hltz : (j : Int) < (H.length : Int) := by omega
      obtain ⟨ad, eA, hx0⟩ := Kd.at_int (Kd.C_below hCH.out hB.out) (j : Int) (by omega) (by omega)
      cases eA
      simp only [Int.toNat_natCast] at hx0
      have htake : (H.take (j + 1)).any (fun x => x == i) = (z || (rd H (j : Int) == i)) := by
        rw [List.take_succ_eq_append_getElem hlt, List.any_append, hz.out]
        simp [rd, hlt]
      generalize rd H (j : Int) = u at hx0 htake
      replace htake := Aside0.mk htake
      cases z with
      | true =>
        go_wp2
        go_roundg (H.length - (j + 1))
        case measure => omega
        case rel => exact ⟨j + 1, true, rfl, by go_num, by omega, by omega, ⟨by rw [htake.out]; rfl⟩, hB⟩
      | false =>
        go_wp2
        go_roundg (H.length - (j + 1))
        case measure => omega
        case rel => exact ⟨j + 1, (u == i), by first | rfl | simp, by go_num, by omega, by omega, ⟨by rw [htake.out]; rfl⟩, hB⟩
    · have hjl : j = H.length := by omega
      subst hjl
      have hltz : ¬ (H.length : Int) < (H.length : Int) := by omega
      have hzv := hz.out
      rw [List.take_length, hpl.out] at hzv
      clear hz hgg hj hlt
      cases q1 with
      | false =>
        obtain rfl : false = z := by simpa using hzv
        go_wp2_with (go_at_call 9; (refine (CBo.out _).mono ?_); rintro e XD ⟨rfl, hbD⟩)
        go_ret
        exact ⟨by first | rfl | simp, below_step hWC.out (below_step hB.out (below_alloc hbD _))⟩
      | true =>
        by_cases hy : 0 < y
        · have hwy := hxy.out hy
          have d2 : decide (y > 0) = true := decide_eq_true hy
          have d3 : decide (0 < y) = true := decide_eq_true hy
          by_cases he : (m1.length : Int) = y - x
          · obtain rfl : true = z := by simpa [d3, he] using hzv
            have d4 : ((m1.length : Int) == y - x) = true := by rw [he]; exact beq_self_eq_true _
            replace he := Aside0.mk he
            clear hzv
            go_wp2_with (go_at_call 9; (refine (CBo.out _).mono ?_); rintro e XD ⟨rfl, hbD⟩)
            go_ret
            exact ⟨by first | rfl | simp, below_step hWC.out (below_step hB.out (below_alloc hbD _))⟩
          · obtain rfl : false = z := by simpa [d3, he] using hzv
            have d4 : ((m1.length : Int) == y - x) = false := beq_eq_false_iff_ne.mpr he
            replace he := Aside0.mk he
            clear hzv
            go_wp2_with (go_at_call 9; (refine (CBo.out _).mono ?_); rintro e XD ⟨rfl, hbD⟩)
            go_ret
            exact ⟨by first | rfl | simp, below_step hWC.out (below_step hB.out (below_alloc hbD _))⟩
        · have d2 : decide (y > 0) = false := decide_eq_false hy
          have d3 : decide (0 < y) = false := decide_eq_false hy
          obtain rfl : false = z := by simpa [d3] using hzv
          clear hzv
          go_wp2_with (go_at_call 9; (refine (CBo.out _).mono ?_); rintro e XD ⟨rfl, hbD⟩)
          go_ret
          exact ⟨by first | rfl | simp, below_step hWC.out (below_step hB.out (below_alloc hbD _))⟩
end Go.Proofs.Ytiecjkkjcdjndaa.Asm
namespace Go.Proofs.Ytiecjkkjcdjndaa.PAll
open Go.RowKit Go.Proofs.Ytiecjkkjcdjndaa.Xw Go.Proofs.YtiecjkkjcdjndaaW.PrintWords Go.Proofs.YtiecjkkjcdjndaaW.PrintLast Go.Proofs.YtiecjkkjcdjndaaW.PrintMore
theorem spencelaw37_AssembleAdds.calls (A0 : Option Addr) (c0 : Nat) (l0 : List S49) (A1 : Option Addr) (c1 : Nat) (l1 : List S49) (a2 a3 a4 : Int) (r : Bool) (w : World) (hr0 : Kd.C k49 w A0 l0.length l0) (_ : l0.length ≤ c0) (hr1 : Kd.C k49 w A1 l1.length l1) (_ : l1.length ≤ c1)
    (hs0 : ∀ p ∈ l0, p.f3.length ≤ 140737488351232 ∧ (Lit.int .i64 p.f2).wf = true) (hs1 : ∀ p ∈ l1, p.f3.length ≤ 140737488351232 ∧ (Lit.int .i64 p.f2).wf = true) (h4 : (Lit.int .i64 a4).wf = true) (h : spencelaw37_AssembleAdds.f l0 l1 a2 a3 a4 = some r) :
    Calls Try.prog 5 #[.slice A0 l0.length c0, .slice A1 l1.length c1, .int .i64 a2, .int .i64 a3, .int .i64 a4] w fun e w' => e = .returned (.bool r) ∧ Below w.heap.size w w' := by
  obtain rfl := Option.some.inj h
  exact Asm.adds_law A0 c0 l0 A1 c1 l1 a2 a3 a4 w hr0 hr1 (fun p hp => ⟨by unfold Asm.Short; have := (hs0 p hp).1; omega, (hs0 p hp).2⟩) (fun p hp => ⟨by unfold Asm.Short; have := (hs1 p hp).1; omega, (hs1 p hp).2⟩) h4
end Go.Proofs.Ytiecjkkjcdjndaa.PAll
namespace Go.Proofs.Ytiecjkkjcdjndaa.Pure
open Go.Proofs.Ytiecjkkjcdjndaa.PAll
theorem AssembleAdds (l0 l1 : List S49) (a2 a3 a4 : Int) (_ : l0.length * 48 ≤ 140737488351232) (_ : ∀ x ∈ l0, (Lit.int .i64 x.f0).wf = true ∧ (Lit.int .i64 x.f1).wf = true ∧ (Lit.int .i64 x.f2).wf = true ∧ ∀ y ∈ x.f3, (Lit.int .u8 y).wf = true) (_ : l1.length * 48 ≤ 140737488351232)
    (_ : ∀ x ∈ l1, (Lit.int .i64 x.f0).wf = true ∧ (Lit.int .i64 x.f1).wf = true ∧ (Lit.int .i64 x.f2).wf = true ∧ ∀ y ∈ x.f3, (Lit.int .u8 y).wf = true) (_ : (Lit.int .i64 a2).wf = true) (_ : (Lit.int .i64 a3).wf = true) (_ : (Lit.int .i64 a4).wf = true) : spencelaw37_AssembleAdds.f l0 l1 a2 a3 a4 = some true := rfl
end Go.Proofs.Ytiecjkkjcdjndaa.Pure
namespace Go.Proofs.Ytiecjkkjcdjndaa.assembleAdds
open Go.ChangeShapes Go.WideShapes Go.ChangeAt Go.RowKit Go.Proofs.Ytiecjkkjcdjndaa.Rd Go.Proofs.Ytiecjkkjcdjndaa.PAll Go.Proofs.YtiecjkkjcdjndaaW.PrintWords
open Go.ChangeMaps (open_string shut_string)
set_option linter.unusedVariables false
theorem own : ownKnob Try.prog.godebug = none := by kernel_rfl
theorem laidOut : laidOutB Try.prog = true := by kernel_rfl
def ok49 (x : S49) : Prop := (Lit.int .i64 x.f0).wf = true ∧ (Lit.int .i64 x.f1).wf = true ∧ (Lit.int .i64 x.f2).wf = true ∧ (∀ y0 ∈ x.f3, (Lit.int .u8 y0).wf = true)
theorem o49 : Opens Try.prog 49 k49 ok49 := opens_struct Try.underlying49 (opensF_cons (opens_int Try.underlying3) rfl (by kernel_rfl) rfl (opensF_cons (opens_int Try.underlying3) rfl (by kernel_rfl) rfl (opensF_cons (opens_int Try.underlying3) rfl (by kernel_rfl) rfl (opensF_one (opens_slice Try.underlying22 (opens_int Try.underlying5) (by kernel_rfl)) rfl (by kernel_rfl))))) (by kernel_rfl) (fun x : S49 => (x.f0, x.f1, x.f2, x.f3)) (fun p => ⟨p.1, p.2.1, p.2.2.1, p.2.2.2⟩) (fun _ => rfl)
set_option maxRecDepth 100000 in
set_option maxHeartbeats 4000000 in
theorem lifted (os : Os) (started : os.Started) (H : Type) (enc : TypeId × Value → H) :
    ReturnsInHanded {} Try.checked os 5 .any (Rows.assembleAddsSpec.pre6 enc Try.prog Try.f5 Rows.assembleAddsRow.domain false) (Rows.assembleAddsSpec.post enc Try.prog Try.f5 false true false false) := by
  refine returnsInHanded_of_change_sized (C := Try.checked) own started (by kernel_rfl) Try.func5
    (ChangeSpec.witness6 (enc := enc) (C := Try.checked) false ⟨#[], #[.slice none 0 0, .slice none 0 0, .int .i64 0, .int .i64 0, .int .i64 0], []⟩ 8 (by kernel_rfl) (by kernel_rfl) (by kernel_rfl) (by kernel_rfl)) ?_
  intro W base args ds gs before hval0 hW hcnd hsz0 _
  have hsz : (DataW.weightsEach Try.prog (Try.f5.params.toList ++ Rows.assembleAddsSpec.plain.varTypes Try.prog) (ds ++ gs)).all (· ≤ reachBytes) = true := hsz0
  have hval : ∀ (j : Nat) t v, Try.f5.params[j]? = some t → args[j]? = some v → Value.okWide Try.prog W .any base t v := hval0
  have hW' := hW
  obtain ⟨p, q, hA0, hV, rfl, hfz, hnd⟩ := hW
  have hA : DataW.TrodAll enc Try.prog W 0 (fun _ => true) true Try.f5.params.toList args.toList ds p := hA0
  rw [Try.params5] at hA hval hsz
  obtain ⟨v0, vs0, d0, ds0, p0, q0, hargs, rfl, rfl, h0, r0⟩ := trodAll_cons hA
  obtain ⟨v1, vs1, d1, ds1, p1, q1, rfl, rfl, rfl, h1, r1⟩ := trodAll_cons r0
  obtain ⟨v2, vs2, d2, ds2, p2, q2, rfl, rfl, rfl, h2, r2⟩ := trodAll_cons r1
  obtain ⟨v3, vs3, d3, ds3, p3, q3, rfl, rfl, rfl, h3, r3⟩ := trodAll_cons r2
  obtain ⟨v4, vs4, d4, ds4, p4, q4, rfl, rfl, rfl, h4, r4⟩ := trodAll_cons r3
  obtain ⟨rfl, rfl, rfl⟩ := trodAll_nil r4
  obtain rfl : args = #[v0, v1, v2, v3, v4] := by cases args; simp_all
  obtain ⟨rfl, rfl⟩ := trodVars_none hV
  have k0 := h0
  have lt0 : ∀ x ∈ p0, x.block < W.heap.size := by obtain ⟨m, hm⟩ := k0; exact DataW.trod_lt m _ _ _ hm
  have k1 := h1
  have lt1 : ∀ x ∈ p1, x.block < W.heap.size := by obtain ⟨m, hm⟩ := k1; exact DataW.trod_lt m _ _ _ hm
  have k2 := h2
  have lt2 : ∀ x ∈ p2, x.block < W.heap.size := by obtain ⟨m, hm⟩ := k2; exact DataW.trod_lt m _ _ _ hm
  have k3 := h3
  have lt3 : ∀ x ∈ p3, x.block < W.heap.size := by obtain ⟨m, hm⟩ := k3; exact DataW.trod_lt m _ _ _ hm
  have k4 := h4
  have lt4 : ∀ x ∈ p4, x.block < W.heap.size := by obtain ⟨m, hm⟩ := k4; exact DataW.trod_lt m _ _ _ hm
  obtain ⟨A0, c0, l0, rfl, hc0, hC0, hok0, hb0⟩ := Rd.open_rowS Try.underlying46 o49 Rd.piece_within (by kernel_rfl) (hval 0 46 v0 rfl rfl) h0 hsz (j := 0) rfl rfl (B := 48) (by kernel_rfl)
  obtain ⟨A1, c1, l1, rfl, hc1, hC1, hok1, hb1⟩ := Rd.open_rowS Try.underlying46 o49 Rd.piece_within (by kernel_rfl) (hval 1 46 v1 rfl rfl) h1 hsz (j := 1) rfl rfl (B := 48) (by kernel_rfl)
  obtain ⟨a2, rfl, rfl, rfl, w2⟩ := open_int Try.underlying3 (hval 2 3 v2 rfl rfl) h2
  obtain ⟨a3, rfl, rfl, rfl, w3⟩ := open_int Try.underlying3 (hval 3 3 v3 rfl rfl) h3
  obtain ⟨a4, rfl, rfl, rfl, w4⟩ := open_int Try.underlying3 (hval 4 3 v4 rfl rfl) h4
  clear hA0 hval0 hsz0 hsz
  have hk := Pure.AssembleAdds l0 l1 a2 a3 a4 hb0 (fun p hp => (hok0 p hp).1) hb1 (fun p hp => (hok1 p hp).1) w2 w3 w4
  refine (PAll.spencelaw37_AssembleAdds.calls _ _ l0 _ _ l1 a2 a3 a4 true W hC0 hc0 hC1 hc1 (fun p hp => ⟨(hok0 p hp).2, (hok0 p hp).1.2.2.1⟩) (fun p hp => ⟨(hok1 p hp).2, (hok1 p hp).1.2.2.1⟩) w4 hk).mono fun e W' ⟨he, hd⟩ => ?_
  have bel : Below W.heap.size W W' := hd
  subst he
  exact ⟨_, rfl, _, _, _, [], _, [], hW', trodAll_mk1 (shut_bool Try.underlying4 _), (trodAll_cons_mk (Below.trod laidOut (by kernel_rfl) (of_decide_eq_true (by kernel_rfl)) k0 bel lt0) (trodAll_cons_mk (Below.trod laidOut (by kernel_rfl) (of_decide_eq_true (by kernel_rfl)) k1 bel lt1) (trodAll_cons_mk (shut_int Try.underlying3 w2) (trodAll_cons_mk (shut_int Try.underlying3 w3) (trodAll_cons_mk (shut_int Try.underlying3 w4) trodAll_mk0))))), rfl, bel.frame _, fun h => by cases h⟩
theorem over : Rows.assembleAddsRow.holds Try.pinned (OpenSpec.ofChange Rows.assembleAddsSpec) :=
  OpenClaim.holds_of_wide 5 Try.f5 rfl rfl rfl rfl rfl rfl rfl ⟨rfl, rfl, rfl, rfl, rfl⟩ rfl rfl rfl rfl rfl (by kernel_rfl) Try.func5 (by kernel_rfl)
    (of_decide_eq_true (by kernel_rfl)) (by unfold Func.isWrapper; first | (rw [if_pos (by decide +kernel)]; kernel_rfl) | (rw [if_neg (by decide +kernel)]; exact ⟨rfl, rfl⟩))
    (fun os started H enc _ => lifted os started H enc)
theorem proved : Rows.AssembleAddsSaid := over
end Go.Proofs.Ytiecjkkjcdjndaa.assembleAdds
namespace Go.Proofs.Ytiecjkkjcdjndaa
theorem assembleAdds_holds : Rows.AssembleAddsSaid := assembleAdds.proved
#print axioms assembleAdds_holds
end Go.Proofs.Ytiecjkkjcdjndaa
