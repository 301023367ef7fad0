/- The law AssembleBodies: for every input the call returns true, and each argument reads behind the call as it read before. No condition. (The row, and the plain law ahead of it.) -/
import Derived.Test.YtiecjkkjcdjndaaKAssembleBodies1
import Derived.Shelf.Abstract
import Derived.Lib.SlBytesConst
import Derived.Deep.RegionHeld3
import Derived.Deep.DrawnRows
import Derived.Test.YtiecjkkjcdjndaaRows
import Derived.WalkKit
import Derived.ProofKit
import Derived.OpenShut
import Derived.ShutString
import Derived.ChangeOld
import Derived.Below
import Derived.SizedLaws
namespace Go.Proofs.Ytiecjkkjcdjndaa.Asm
open Go Go.RowKit Go.Shelf Go.Proofs Go.Proofs.Ytiecjkkjcdjndaa.Xw Go.Proofs.Ytiecjkkjcdjndaa.PAll Go.Proofs.YtiecjkkjcdjndaaW.PrintWords Go.Proofs.YtiecjkkjcdjndaaW.PrintLast Go.Proofs.YtiecjkkjcdjndaaW.PrintMore Go.Proofs.Ytiecjkkjcdjndaa.Mp Go.Proofs.Ytiecjkkjcdjndaa.Pure
attribute [local go_sem] Oper.semAt_some
def cof (a0 a1 s : Int) : Int × Int := if SR a0 a1 ∧ 1 ≤ s ∧ s ≤ 64 then (a0 / s, (a1 - 1) / s + 1) else (0, 0)
theorem div_bd {x s : Int} (h : 0 ≤ x) (hs : 1 ≤ s) : 0 ≤ x / s ∧ x / s ≤ x := ⟨Int.ediv_nonneg h (by omega), Int.ediv_le_self _ h⟩
theorem of_eq (a0 a1 s : Int) : cuts_Of.f a0 a1 s = some (cof a0 a1 s) := by
  unfold cuts_Of.f cof
  simp only [span_right_eq, right_eq, Option.bind_some]
  by_cases h : SR a0 a1
  · have h' := h
    obtain ⟨g0, g1, g2⟩ := h'
    rw [if_pos (decide_eq_true h)]
    by_cases hs : 1 ≤ s ∧ s ≤ 64
    · have hc : CR 0 s := ⟨by omega, by omega, hs.1, hs.2⟩
      have d0 := div_bd (x := a0) g0 hs.1
      have d1 := div_bd (x := a1 - 1) (by omega) hs.1
      rw [if_pos (decide_eq_true hc), if_neg (by omega), if_pos ⟨h, hs⟩, Int.tdiv_eq_ediv_of_nonneg g0, wrap_id (x := a0 / s) (by omega), wrap_id (x := a1 - 1) (by omega), Int.tdiv_eq_ediv_of_nonneg (by omega),
        wrap_id (x := (a1 - 1) / s) (by omega), wrap_id (x := (a1 - 1) / s + 1) (by omega)]
    · have hc : ¬ CR 0 s := fun h => hs ⟨h.2.2.1, h.2.2.2⟩
      have hd : ¬ (decide (CR 0 s) = true) := by simpa using hc
      rw [if_neg hd, if_neg (fun h => hs h.2)]
  · have hd : ¬ (decide (SR a0 a1) = true) := by simpa using h
    rw [if_neg hd, if_neg (fun h' => h h'.1)]
/-- The bytes of d slices from i on, behind acc; none where one of them isn't there. -/
def runB (F : Int → Option (List Int)) (a c n s : Int) : Nat → Int → List Int → Option (List Int)
  | 0, _, acc => some acc
  | d + 1, i, acc => if hasP F n s i = true then runB F a c n s d (i + 1) (acc ++ piece F a c n s i) else none
def bodyP (F : Int → Option (List Int)) (a c n s : Int) : Option (List Int) :=
  if SR a c ∧ c ≤ n ∧ CR n s then runB F a c n s ((cof a c s).2 - (cof a c s).1).toNat (cof a c s).1 [] else none
theorem runB_none {F : Int → Option (List Int)} {a c n s : Int} {d : Nat} {i : Int} {acc : List Int} (h : hasP F n s i = false) : runB F a c n s (d + 1) i acc = none := by
  rw [runB, if_neg (by rw [h]; decide)]
theorem runB_step {F : Int → Option (List Int)} {a c n s : Int} {d : Nat} {i : Int} {acc : List Int} (h : hasP F n s i = true) : runB F a c n s (d + 1) i acc = runB F a c n s d (i + 1) (acc ++ piece F a c n s i) := by
  rw [runB, if_pos h]
theorem add_enters (args : Array Value) (w : World) : (callFunc 25 args).run Try.prog w = .ok (.enter 25 args) w := enters_of Try.func25 (by kernel_rfl) rfl args w
/-- the slices of a span meet it -/
theorem of_hits {a c n s i : Int} (h0 : SR a c) (h1 : c ≤ n) (h2 : CR n s) (hi0 : (cof a c s).1 ≤ i) (hi1 : i < (cof a c s).2) : hits a c (bnd i n s).1 (bnd i n s).2 := by
  have hs : 1 ≤ s ∧ s ≤ 64 := ⟨h2.2.2.1, h2.2.2.2⟩
  have e : cof a c s = (a / s, (c - 1) / s + 1) := by unfold cof; rw [if_pos ⟨h0, hs⟩]
  rw [e] at hi0 hi1
  simp only at hi0 hi1
  obtain ⟨g0, g1, g2⟩ := h0
  have d0 := Int.ediv_nonneg g0 (show 0 ≤ s by omega)
  have k1 : a < (a / s + 1) * s := Int.lt_ediv_add_one_mul_self a (by omega)
  have k2 : (c - 1) / s * s ≤ c - 1 := Int.ediv_mul_le _ (by omega)
  have k3 : (a / s + 1) * s ≤ (i + 1) * s := Int.mul_le_mul_of_nonneg_right (by omega) (by omega)
  have k4 : i * s ≤ (c - 1) / s * s := Int.mul_le_mul_of_nonneg_right (by omega) (by omega)
  have k5 : (i + 1) * s = i * s + s := by rw [Int.add_mul, Int.one_mul]
  have hslot : CR n s ∧ 0 ≤ i ∧ i * s < n := ⟨h2, by omega, by omega⟩
  have hb := bnd_in hslot
  have hp := (bnd_pos i n s).2.2.1 hslot
  have hp0 := (bnd_pos i n s).2.1
  have m1 := mx_eq a (bnd i n s).1
  have m2 := mn_eq c (bnd i n s).2
  have m3 := mn_eq (i * s + s) n
  refine ⟨⟨g0, g1, g2⟩, ⟨by omega, by omega, by omega⟩, ?_⟩
  rw [m1, m2, hb.1, hb.2, m3]
  have hn := h2.2.1
  omega
theorem alloc_size (w : World) (o : Obj) : (w.alloc o).heap.size = w.heap.size + 1 := by
  unfold World.alloc
  exact Array.size_push _
theorem own_row {w : World} {base : Nat} {v : Value} {xs : List Int} (h : w.ownsRow base 5 1 v xs.length (nums .u8 xs)) : RowB w v xs := by
  obtain ⟨A, c, rfl, hr⟩ := own_reads h
  refine ⟨A, c, rfl, ?_, Kd.C_of_reads (d := (0 : Int)) hr⟩
  rcases h.2 with ⟨h1, h2⟩ | ⟨g, cap, cur, h1, _, _, h2, _⟩
  · omega
  · injection h1 with _ _ h3
    omega
theorem piece_le {F : Int → Option (List Int)} {a c n s i : Int} (hP : hasP F n s i = true) (hh : hits a c (bnd i n s).1 (bnd i n s).2) : (piece F a c n s i).length ≤ 4096 := (piece_len hP hh).2.2.2.1.2
theorem cof_bd (a c n s : Int) (h0 : SR a c) (h1 : c ≤ n) (h2 : CR n s) : 0 ≤ (cof a c s).1 ∧ (cof a c s).1 ≤ (cof a c s).2 ∧ (cof a c s).2 ≤ 4097 := by
  have hs : 1 ≤ s ∧ s ≤ 64 := ⟨h2.2.2.1, h2.2.2.2⟩
  have e : cof a c s = (a / s, (c - 1) / s + 1) := by unfold cof; rw [if_pos ⟨h0, hs⟩]
  rw [e]
  obtain ⟨g0, g1, g2⟩ := h0
  have d0 := div_bd (x := a) g0 hs.1
  have d1 := div_bd (x := c - 1) (by omega) hs.1
  have d2 : a / s ≤ (c - 1) / s := Int.ediv_le_ediv (by omega) (by omega)
  have hn := h2.2.1
  refine ⟨d0.1, ?_, ?_⟩ <;> dsimp only <;> omega
set_option maxRecDepth 100000 in
set_option maxHeartbeats 4000000 in
theorem body_calls (b cnt : Nat) (F : Int → Option (List Int)) (a c n s : Int) (w : World) (hm : MB w b cnt F) :
    Calls Try.prog 15 #[.map (some b), .agg #[.int .i64 a, .int .i64 c], .int .i64 n, .int .i64 s] w fun e w' => ∃ v, e = .returned (.tuple #[v, .bool (bodyP F a c n s).isSome]) ∧ w'.ownsRow w.heap.size 5 1 v ((bodyP F a c n s).getD []).length (nums .u8 ((bodyP F a c n s).getD [])) ∧ Below w.heap.size w w' := by
  have CS := fun X => span_Right.calls a c _ X (span_right_eq a c)
  have CC := fun X => cuts_Right.calls n s _ X (right_eq n s)
  have CO := fun X => cuts_Of.calls a c s (cof a c s).1 (cof a c s).2 X (of_eq a c s)
  have CA := fun i hi h1 bo l hl X => add_calls w b cnt F a c n s i hi hm h1 bo l hl X
  have rnil : ∀ X : World, X.ownsRow w.heap.size 5 1 (.slice none 0 0) ([] : List Int).length (nums .u8 []) := fun X => own_nil _ _ _ _
  have h4 := blk_alloc (blk_alloc (blk_alloc (blk_new w (.cells #[.map (some b)] 27 (0, 0))) (.cells #[.int .i64 a, .int .i64 c] 31 (0, 0))) (.cells #[.int .i64 n] 3 (0, 0))) (.cells #[.int .i64 s] 3 (0, 0))
  have h5 := blk_alloc (blk_alloc (blk_new (w.alloc (.cells #[.map (some b)] 27 (0, 0))) (.cells #[.int .i64 a, .int .i64 c] 31 (0, 0))) (.cells #[.int .i64 n] 3 (0, 0))) (.cells #[.int .i64 s] 3 (0, 0))
  have h6 := blk_alloc (blk_new ((w.alloc (.cells #[.map (some b)] 27 (0, 0))).alloc (.cells #[.int .i64 a, .int .i64 c] 31 (0, 0))) (.cells #[.int .i64 n] 3 (0, 0))) (.cells #[.int .i64 s] 3 (0, 0))
  have h7 := blk_new (((w.alloc (.cells #[.map (some b)] 27 (0, 0))).alloc (.cells #[.int .i64 a, .int .i64 c] 31 (0, 0))).alloc (.cells #[.int .i64 n] 3 (0, 0))) (.cells #[.int .i64 s] 3 (0, 0))
  have hBA := below_alloc (below_alloc (below_alloc (below_alloc (Below.refl w.heap.size w) (.cells #[.map (some b)] 27 (0, 0))) (.cells #[.int .i64 a, .int .i64 c] 31 (0, 0))) (.cells #[.int .i64 n] 3 (0, 0))) (.cells #[.int .i64 s] 3 (0, 0))
  have hsz : ((((w.alloc (.cells #[.map (some b)] 27 (0, 0))).alloc (.cells #[.int .i64 a, .int .i64 c] 31 (0, 0))).alloc (.cells #[.int .i64 n] 3 (0, 0))).alloc (.cells #[.int .i64 s] 3 (0, 0))).heap.size = w.heap.size + 4 := by simp only [alloc_size]
  simp only [alloc_size] at h5 h6 h7
  rw [show w.heap.size + 1 + 1 = w.heap.size + 2 from rfl] at h6
  rw [show w.heap.size + 1 + 1 + 1 = w.heap.size + 3 from rfl] at h7
  obtain ⟨wA, hwA⟩ : ∃ X, (((w.alloc (.cells #[.map (some b)] 27 (0, 0))).alloc (.cells #[.int .i64 a, .int .i64 c] 31 (0, 0))).alloc (.cells #[.int .i64 n] 3 (0, 0))).alloc (.cells #[.int .i64 s] 3 (0, 0)) = X := ⟨_, rfl⟩
  rw [hwA] at h4 h5 h6 h7 hBA hsz
  have hS4 : ∀ X, Below wA.heap.size wA X → X.cell? ⟨w.heap.size + 1, 0, none⟩ = some (.int .i64 a) := fun X h => (blk_cell (blk_below h5 h) 0).trans rfl
  have hS5 : ∀ X, Below wA.heap.size wA X → X.cell? ⟨w.heap.size + 1, 1, none⟩ = some (.int .i64 c) := fun X h => (blk_cell (blk_below h5 h) 1).trans rfl
  have hS6 : ∀ X, Below wA.heap.size wA X → X.cell? ⟨w.heap.size + 2, 0, none⟩ = some (.int .i64 n) := fun X h => (blk_cell (blk_below h6 h) 0).trans rfl
  have hS7 : ∀ X, Below wA.heap.size wA X → X.cell? ⟨w.heap.size + 3, 0, none⟩ = some (.int .i64 s) := fun X h => (blk_cell (blk_below h7 h) 0).trans rfl
  replace CS := Aside0.mk CS
  replace CC := Aside0.mk CC
  replace CO := Aside0.mk CO
  replace CA := Aside0.mk CA
  replace rnil := Aside0.mk rnil
  replace h4 := Aside0.mk h4
  replace h5 := Aside0.mk h5
  replace h6 := Aside0.mk h6
  replace h7 := Aside0.mk h7
  replace hBA := Aside0.mk hBA
  replace hsz := Aside0.mk hsz
  have HW := Aside0.mk hwA
  clear hwA hm
  unfold bodyP
  by_cases k0 : SR a c
  case neg =>
    rw [decide_eq_false k0] at CS
    rw [if_neg (fun h => k0 h.1)]
    replace k0 := Aside0.mk k0
    go_enter Try.func15, Try.ntmps15
    go_wp2_with (first | (go_at_call 24; rw [HW.out]; refine (CS.out _).mono ?_; rintro e X1 ⟨rfl, hb1⟩))
    refine bodyPost_ret (results_tmp2 rfl _ _ _) rfl ?_
    exact ⟨_, rfl, rnil.out _, below_step hBA.out hb1⟩
  rw [decide_eq_true k0] at CS
  by_cases k1 : c ≤ n
  case neg =>
    have d1 : decide (c > n) = true := decide_eq_true (by omega)
    have d1' : decide (n < c) = true := decide_eq_true (by omega)
    rw [if_neg (fun h => k1 h.2.1)]
    replace k0 := Aside0.mk k0
    replace k1 := Aside0.mk k1
    go_enter Try.func15, Try.ntmps15
    go_wp2_with (first | (go_at_call 24; rw [HW.out]; refine (CS.out _).mono ?_; rintro e X1 ⟨rfl, hb1⟩))
    refine bodyPost_ret (results_tmp2 rfl _ _ _) rfl ?_
    exact ⟨_, rfl, rnil.out _, below_step hBA.out hb1⟩
  have d1 : decide (c > n) = false := decide_eq_false (by omega)
  have d1' : decide (n < c) = false := decide_eq_false (by omega)
  by_cases k2 : CR n s
  case neg =>
    rw [decide_eq_false k2] at CC
    rw [if_neg (fun h => k2 h.2.2)]
    replace k0 := Aside0.mk k0
    replace k1 := Aside0.mk k1
    replace k2 := Aside0.mk k2
    go_enter Try.func15, Try.ntmps15
    go_wp2_with (first | (go_at_call 24; rw [HW.out]; refine (CS.out _).mono ?_; rintro e X1 ⟨rfl, hb1⟩) | (go_at_call 21; refine (CC.out _).mono ?_; rintro e X2 ⟨rfl, hb2⟩))
    refine bodyPost_ret (results_tmp2 rfl _ _ _) rfl ?_
    exact ⟨_, rfl, rnil.out _, below_step (below_step hBA.out hb1) hb2.below⟩
  rw [decide_eq_true k2] at CC
  rw [if_pos ⟨k0, k1, k2⟩]
  have hcb := cof_bd a c n s k0 k1 k2
  have hhit := fun i h0 h1 (_ : hasP F n s i = true) => of_hits (i := i) k0 k1 k2 h0 h1
  generalize (cof a c s).1 = fr at CO hcb hhit ⊢
  generalize (cof a c s).2 = te at CO hcb hhit ⊢
  obtain ⟨hc0, hc1, hc2⟩ := hcb
  obtain ⟨res, hres⟩ : ∃ res, runB F a c n s (te - fr).toNat fr [] = res := ⟨_, rfl⟩
  rw [hres]
  replace hres := Aside0.mk hres
  replace hhit := Aside0.mk hhit
  replace k0 := Aside0.mk k0
  replace k1 := Aside0.mk k1
  replace k2 := Aside0.mk k2
  go_enter Try.func15, Try.ntmps15
  go_wp2_with (first | (go_at_call 24; rw [HW.out]; refine (CS.out _).mono ?_; rintro e X1 ⟨rfl, hb1⟩) | (go_at_call 21; refine (CC.out _).mono ?_; rintro e X2 ⟨rfl, hb2⟩; have hX2 := below_step hb1 hb2.below; have hX2' := below_alloc hX2 (.cells #[.slice none 0 0] 22 (0, 0))) | (go_at_call 29; refine (CO.out _).mono ?_; rintro e X3 ⟨rfl, hb3⟩))
  have hI0 : Inv w b a c n s X2.heap.size [] X3 := by
    refine Inv.below ⟨below_step hBA.out hX2', blk_below h4.out hX2', blk_below h5.out hX2', blk_below h6.out hX2', blk_below h7.out hX2', ?_, .slice none 0 0, blk_new _ _, own_nil _ _ _ _⟩ hb3
    have := hX2.size
    have := hsz.out
    omega
  replace hI0 := Aside0.mk hI0
  generalize X2.heap.size = bo at hI0 ⊢
  clear hb1 hb2 hX2 hX2' hb3 hS4 hS5 hS6 hS7 HW h4 h5 h6 h7 hBA hsz CS CC CO
  have eg := add_enters
  go_loopg [14] (te - fr).toNat (fun gg v14 wr => ∃ (i : Int) (acc : List Int), v14 = .int .i64 i ∧ fr ≤ i ∧ i ≤ te ∧ (te - i).toNat ≤ gg ∧ Aside0 (runB F a c n s (te - i).toNat i acc = res) ∧ (acc.length : Int) ≤ 4096 * (i - fr) ∧ Aside0 (Inv w b a c n s bo acc wr))
  case atStart => exact ⟨fr, [], rfl, by omega, by omega, by omega, hres, by simp, hI0⟩
  case round =>
    obtain ⟨i, acc, rfl, hi0, hi1, hgg, hrun, hacc, hI⟩ := hrel
    by_cases hlt : i < te
    · obtain ⟨d, hd⟩ : ∃ d, (te - i).toNat = d + 1 := ⟨(te - i).toNat - 1, by omega⟩
      rw [hd] at hrun
      have hw : (Lit.int .i64 i).wf = true := WalkArith.wf_i64 (by omega)
      have hc := CA.out i hw (hhit.out i hi0 hlt) bo acc (by omega) _ hI.out
      cases hP : hasP F n s i with
      | false =>
        rw [hP] at hc
        have hr := hrun.out
        rw [runB_none hP] at hr
        subst hr
        replace hc := Aside0.mk hc
        go_wp2_with (go_at_fn 25; refine hc.out.mono ?_; rintro e w' ⟨rfl, hI'⟩)
        refine bodyPost_ret (results_tmp2 rfl _ _ _) rfl ?_
        exact ⟨_, rfl, rnil.out _, hI'.hB⟩
      | true =>
        rw [hP, if_pos rfl] at hc
        have hr := hrun.out
        rw [runB_step hP] at hr
        have hpl := piece_le hP (hhit.out i hi0 hlt hP)
        replace hc := Aside0.mk hc
        go_wp2_with (go_at_fn 25; refine hc.out.mono ?_; rintro e w' ⟨rfl, hI'⟩)
        go_roundg (te - (i + 1)).toNat
        case measure => omega
        case rel => exact ⟨i + 1, _, by go_num, by omega, by omega, by omega, ⟨by rw [show (te - (i + 1)).toNat = d by omega]; exact hr⟩, by rw [List.length_append]; push_cast; omega, ⟨hI'⟩⟩
    · have : i = te := by omega
      subst this
      have hr := hrun.out
      rw [show (i - i).toNat = 0 by omega] at hr
      rw [runB] at hr
      subst hr
      obtain ⟨vo, hvo, hown⟩ := hI.out.ho
      have hq_ := (blk_cell hvo 0).trans rfl
      go_wp2
      refine bodyPost_ret (results_tmp2 rfl _ _ _) rfl ?_
      exact ⟨_, rfl, hown, hI.out.hB⟩
end Go.Proofs.Ytiecjkkjcdjndaa.Asm
namespace Go.Proofs.Ytiecjkkjcdjndaa.Pure
open Go.RowKit Go.Proofs.Ytiecjkkjcdjndaa.PAll Go.Proofs.YtiecjkkjcdjndaaW.PrintWords Go.Proofs.YtiecjkkjcdjndaaW.PrintLast Go.Proofs.YtiecjkkjcdjndaaW.PrintMore
theorem in_loop (l : List Int) (x : Int) (hl : l.length ≤ 100000) (d : Nat) : ∀ i : Int, 0 ≤ i → i ≤ l.length → (l.length : Int) - i = d → Ev (fun k => spenceref01_In.l0 k x l l.length i) (decide (x ∈ l.drop i.toNat)) := by
  induction d with
  | zero =>
    intro i h0 h1 hd
    refine Ev.pos (fun k => ?_)
    simp only [spenceref01_In.l0]
    rw [if_neg (by omega), List.drop_of_length_le (by omega)]; simp
  | succ d ih =>
    intro i h0 h1 hd
    have hi : i.toNat < l.length := by omega
    have e1 : (i + 1).toNat = i.toNat + 1 := by omega
    have hn := ih (i + 1) (by omega) (by omega) (by omega)
    rw [e1] at hn
    have hr : rd l i = l[i.toNat] := by unfold rd; simp [List.getD_eq_getElem?_getD, List.getElem?_eq_getElem hi]
    rw [List.drop_eq_getElem_cons hi]
    generalize l[i.toNat] = y at hr
    refine Ev.succ ?_
    simp only [spenceref01_In.l0, show i < (l.length : Int) by omega, h0, if_true, hr]
    by_cases hy : y = x
    · simp only [hy, if_true]; rw [decide_eq_true List.mem_cons_self]; exact Ev.now _
    · simp only [hy, if_false]
      rw [wrap_id (by omega)]
      have : decide (x ∈ y :: l.drop (i.toNat + 1)) = decide (x ∈ l.drop (i.toNat + 1)) := by
        rw [decide_eq_decide, List.mem_cons]
        exact ⟨fun h => h.resolve_left (fun e => hy e.symm), .inr⟩
      rw [this]; exact hn
theorem in_ev (l : List Int) (x : Int) (hl : l.length ≤ 100000) : Ev (fun k => spenceref01_In.f k l x) (decide (x ∈ l)) := by
  have := in_loop l x hl l.length 0 (by omega) (by omega) (by omega)
  rwa [Int.toNat_zero, List.drop_zero] at this
end Go.Proofs.Ytiecjkkjcdjndaa.Pure
namespace Go.Proofs.Ytiecjkkjcdjndaa.Asm
open Go Go.RowKit Go.Shelf Go.Proofs Go.Proofs.Ytiecjkkjcdjndaa.Xw Go.Proofs.Ytiecjkkjcdjndaa.PAll Go.Proofs.YtiecjkkjcdjndaaW.PrintWords Go.Proofs.YtiecjkkjcdjndaaW.PrintLast Go.Proofs.YtiecjkkjcdjndaaW.PrintMore Go.Proofs.Ytiecjkkjcdjndaa.Mp Go.Proofs.Ytiecjkkjcdjndaa.Pure
attribute [local go_sem] Oper.semAt_some
/-- the slices of an object but those that are left out, up to place m -/
def ofM (l : List Int) (s : Int) (o : List Int) (m : Int) : Int → Option (List Int) := fun i =>
  if 0 ≤ i ∧ i < m ∧ 0 < (bnd i l.length s).2 ∧ i ∉ o then some ((l.take (bnd i l.length s).2.toNat).drop (bnd i l.length s).1.toNat) else none
theorem ofM_zero (l : List Int) (s : Int) (o : List Int) : ofM l s o 0 = fun _ => none := by
  funext i
  unfold ofM
  rw [if_neg (by omega)]
theorem ofM_put {l : List Int} {s : Int} {o : List Int} {m : Int} (h0 : 0 ≤ m) (h1 : 0 < (bnd m l.length s).2) (h2 : m ∉ o) :
    putF (ofM l s o m) m ((l.take (bnd m l.length s).2.toNat).drop (bnd m l.length s).1.toNat) = ofM l s o (m + 1) := by
  funext i
  unfold putF ofM
  by_cases e : i = m
  · subst e
    rw [if_pos rfl, if_pos ⟨h0, by omega, h1, h2⟩]
  · rw [if_neg e]
    by_cases h : 0 ≤ i ∧ i < m ∧ 0 < (bnd i l.length s).2 ∧ i ∉ o
    · rw [if_pos h, if_pos ⟨h.1, by omega, h.2.2⟩]
    · rw [if_neg h, if_neg (fun h' => h ⟨h'.1, by omega, h'.2.2⟩)]
theorem ofM_skip {l : List Int} {s : Int} {o : List Int} {m : Int} (h : ¬ (0 < (bnd m l.length s).2 ∧ m ∉ o)) : ofM l s o m = ofM l s o (m + 1) := by
  funext i
  unfold ofM
  by_cases e : i = m
  · subst e
    rw [if_neg (by omega), if_neg (fun h' => h h'.2.2)]
  · by_cases h : 0 ≤ i ∧ i < m ∧ 0 < (bnd i l.length s).2 ∧ i ∉ o
    · rw [if_pos h, if_pos ⟨h.1, by omega, h.2.2⟩]
    · rw [if_neg h, if_neg (fun h' => h ⟨h'.1, by omega, h'.2.2⟩)]
theorem below_grown0 {W w1 : World} (hg : W.grownBy w1 (Value.slice none 0 0).ownBlock) : Below W.heap.size W w1 := ⟨hg.os, hg.tape, hg.output, hg.size, fun k hk => hg.block k hk (by simp [Value.ownBlock])⟩
set_option maxRecDepth 100000 in
set_option maxHeartbeats 4000000 in
theorem of_calls (A : Option Addr) (c : Nat) (l : List Int) (s : Int) (A2 : Option Addr) (c2 : Nat) (o : List Int) (w : World) (hC : (Kd.int .u8).C w A l.length l) (hc : l.length ≤ c) (hC2 : (Kd.int .i64).C w A2 o.length o) (hc2 : o.length ≤ c2) (hlen : l.length ≤ 100000) (hlen2 : o.length ≤ 100000) :
    Calls Try.prog 8 #[.slice A l.length c, .int .i64 s, .slice A2 o.length c2] w fun e w' => ∃ b, e = .returned (.map (some b)) ∧ MB w' b l.length (ofM l s o l.length) ∧ Below w.heap.size w w' := by
  have CB := fun i X => spenceref04_Bounds.calls 1 i l.length s (bnd i l.length s).1 (bnd i l.length s).2 X (ref_bounds_eq 0 i l.length s)
  have CI := fun i X hX => spenceref01_In.calls (in_ev o i hlen2).choose A2 c2 o i (decide (i ∈ o)) X hX hc2 ((in_ev o i hlen2).choose_spec _ (Nat.le_refl _))
  obtain ⟨i5, hi5, hi5z⟩ := Option.map_eq_some_iff.1 info5
  simp only [Prod.mk.injEq] at hi5z
  have hmk := @run_makeMap Try.prog
  replace CB := Aside0.mk CB
  replace CI := Aside0.mk CI
  replace hC := Aside0.mk hC
  replace hC2 := Aside0.mk hC2
  have hM0 := Aside0.mk (MapB.made Try.prog 3 w)
  have hBm := Aside0.mk (below_alloc (Below.refl w.heap.size w) (.map #[] 0))
  go_enter Try.func8, Try.ntmps8
  go_wp2
  go_loopg [8] l.length (fun gg v8 wr => ∃ m : Nat, v8 = .int .i64 m ∧ m ≤ l.length ∧ l.length - m ≤ gg ∧ Aside0 (MB wr w.heap.size m (ofM l s o m)) ∧ Aside0 (Below w.heap.size w wr))
  case atStart => exact ⟨0, rfl, by omega, by omega, ⟨by rw [show ((0 : Nat) : Int) = 0 from rfl, ofM_zero]; exact hM0.out⟩, hBm⟩
  case round =>
    obtain ⟨m, rfl, hml, hgg, hM, hB⟩ := hrel
    by_cases hlt : m < l.length
    · have hltz : (m : Int) < (l.length : Int) := by omega
      have hwf : (Lit.int .i64 (m : Int)).wf = true := WalkArith.wf_i64 (by omega)
      have CBm := Aside0.mk (CB.out m)
      have hpos := bnd_pos m l.length s
      have hput := fun h1 h2 => ofM_put (l := l) (s := s) (o := o) (m := m) (by omega) h1 h2
      have hskip := fun h => ofM_skip (l := l) (s := s) (o := o) (m := m) h
      generalize (bnd m l.length s).1 = x at CBm hpos hput
      generalize (bnd m l.length s).2 = y at CBm hpos hput hskip
      replace hput := Aside0.mk hput
      replace hskip := Aside0.mk hskip
      have CIm := Aside0.mk (CI.out m)
      by_cases h1 : 0 < y
      case neg =>
        have d1 : decide (y > 0) = false := decide_eq_false h1
        have d1' : decide (0 < y) = false := decide_eq_false h1
        replace hpos := Aside0.mk hpos
        go_wp2_with (go_at_call 9; refine (CBm.out _).mono ?_; rintro e w1 ⟨rfl, hb1⟩)
        go_roundg (l.length - (m + 1))
        case measure => omega
        case rel => exact ⟨m + 1, by go_num, by omega, by omega, ⟨by
          push_cast
          rw [← hskip.out (fun h => absurd h.1 (by omega))]
          exact (hM.out.mono (Nat.le_succ m)).below (below_alloc hb1 _)⟩, ⟨below_step hB.out (below_alloc hb1 _)⟩⟩
      have d1 : decide (y > 0) = true := decide_eq_true h1
      have d1' : decide (0 < y) = true := decide_eq_true h1
      by_cases h2 : (m : Int) ∈ o
      case pos =>
        rw [decide_eq_true h2] at CIm
        replace hpos := Aside0.mk hpos
        replace h1 := Aside0.mk h1
        go_wp2_with (first | (go_at_call 9; refine (CBm.out _).mono ?_; rintro e w1 ⟨rfl, hb1⟩) | (go_at_call 14; refine (CIm.out _ (Kd.C_below hC2.out (below_step hB.out (below_alloc hb1 _)))).mono ?_; rintro e w2 ⟨rfl, hb2⟩))
        go_roundg (l.length - (m + 1))
        case measure => omega
        case rel => exact ⟨m + 1, by go_num, by omega, by omega, ⟨by
          push_cast
          rw [← hskip.out (fun h => h.2 h2)]
          exact (hM.out.mono (Nat.le_succ m)).below (below_step (below_alloc hb1 _) hb2.below)⟩, ⟨below_step hB.out (below_step (below_alloc hb1 _) hb2.below)⟩⟩
      case neg =>
        rw [decide_eq_false h2] at CIm
        have hy := (hpos.2.2.1 (hpos.1.1 h1))
        obtain ⟨A3, hsl, hsr, hcap2⟩ := print_mid_int (k := .u8) 22 5 Try.underlying22 hi5 hi5z.2.1 A c l x y hpos.2.1 (by omega) (by omega) hc
        have hput2 := hput.out h1 h2
        replace hpos := Aside0.mk hpos
        replace h1 := Aside0.mk h1
        replace h2 := Aside0.mk h2
        have hyl : ((l.take y.toNat).drop x.toNat).length ≤ 100000 := by rw [List.length_drop, List.length_take]; omega
        generalize (l.take y.toNat).drop x.toNat = ys at hsl hsr hcap2 hput2 hyl
        replace hsr := Aside0.mk hsr
        replace hput2 := Aside0.mk hput2
        replace hy := Aside0.mk hy
        go_wp2_with (first | (go_at_call 9; refine (CBm.out _).mono ?_; rintro e w1 ⟨rfl, hb1⟩) | (go_at_call 14; refine (CIm.out _ (Kd.C_below hC2.out (below_step hB.out (below_alloc hb1 _)))).mono ?_; rintro e w2 ⟨rfl, hb2⟩; have hBx := below_step (below_alloc hb1 (.cells #[.int .i64 x, .int .i64 y] 31 (0, 0))) hb2.below; have hc0 : w2.cell? ⟨w1.heap.size, 0, none⟩ = some (.int .i64 x) := (blk_cell (blk_below (blk_new w1 (.cells #[.int .i64 x, .int .i64 y] 31 (0, 0))) hb2.below) 0).trans rfl; have hc1 : w2.cell? ⟨w1.heap.size, 1, none⟩ = some (.int .i64 y) := (blk_cell (blk_below (blk_new w1 (.cells #[.int .i64 x, .int .i64 y] 31 (0, 0))) hb2.below) 1).trans rfl) | (at_builtin; refine print_append_row (w0 := w) w.heap.size rfl _ _ 22 5 .u8 1 rfl Try.underlying22 info5 (by decide) (.slice none 0 0) [] ys A3 ys.length (c - x.toNat) rfl rfl (own_nil _ _ _ _) (hsr.out _ (Kd.reads_of_C (d := (0 : Int)) (Kd.C_below hC.out (below_step hB.out hBx)))) (below_step hB.out hBx) (below_step hB.out hBx).size (by simp; omega) ?_; intro v1 w3 hown hB3 hgr hloc; replace hown : w3.ownsRow w.heap.size 5 1 v1 ys.length (nums .u8 ys) := hown) | (at_mapUpdate; refine wpList_put rfl _ _ _ 27 rfl Try.underlying3 Try.underlying27 (by simp only [maxLen]; omega) rfl ((hM.out.below hBx).below (below_grown0 hgr)) rfl hwf rfl (own_row hown) ?_; intro w4 hM4 hT4))
        go_roundg (l.length - (m + 1))
        case measure => omega
        case rel => exact ⟨m + 1, by go_num, by omega, by omega, ⟨by
          push_cast
          rw [← hput2.out]
          exact hM4⟩, ⟨pw_below_grown hB3 (some w.heap.size) hB3.size hT4.grown (fun k hk => by cases hk; exact Nat.le_refl _)⟩⟩
    · have : m = l.length := by omega
      subst this
      have hltz : ¬ (l.length : Int) < (l.length : Int) := by omega
      go_wp2
      go_ret
      exact ⟨_, rfl, hM.out, hB.out⟩
end Go.Proofs.Ytiecjkkjcdjndaa.Asm
namespace Go.Proofs.Ytiecjkkjcdjndaa.Asm
open Go Go.RowKit Go.Proofs Go.Proofs.Ytiecjkkjcdjndaa.Xw Go.Proofs.Ytiecjkkjcdjndaa.PAll Go.Proofs.YtiecjkkjcdjndaaW.PrintWords Go.Proofs.YtiecjkkjcdjndaaW.PrintLast Go.Proofs.YtiecjkkjcdjndaaW.PrintMore Go.Proofs.Ytiecjkkjcdjndaa.Mp Go.Proofs.Ytiecjkkjcdjndaa.Pure
/-- the bytes a to c of l -/
def cutL (l : List Int) (a c : Int) : List Int := (l.take c.toNat).drop a.toNat
theorem cutL_app (l : List Int) {a p q : Int} (h0 : 0 ≤ a) (h1 : a ≤ p) (h2 : p ≤ q) (h3 : q ≤ l.length) : cutL l a p ++ cutL l p q = cutL l a q := by
  unfold cutL
  refine List.ext_getElem (by simp only [List.length_append, List.length_drop, List.length_take]; omega) fun j g1 g2 => ?_
  simp only [List.length_drop, List.length_take] at g2
  rw [List.getElem_append]
  split
  · rename_i h
    simp only [List.length_drop, List.length_take] at h
    simp only [List.getElem_drop, List.getElem_take]
  · rename_i h
    simp only [List.length_drop, List.length_take] at h
    simp only [List.getElem_drop, List.getElem_take, List.length_drop, List.length_take]
    congr 1
    omega
theorem cutL_cut (l : List Int) {x y p q : Int} (h0 : 0 ≤ x) (h1 : x ≤ p) (h2 : p ≤ q) (h3 : q ≤ y) : ((cutL l x y).take (q - x).toNat).drop (p - x).toNat = cutL l p q := by
  unfold cutL
  refine List.ext_getElem (by simp only [List.length_drop, List.length_take]; omega) fun j g1 g2 => ?_
  simp only [List.getElem_drop, List.getElem_take]
  congr 1
  omega
theorem ofM_at {l : List Int} {s : Int} {o : List Int} {i : Int} (hs : CR l.length s ∧ 0 ≤ i ∧ i * s < l.length) : ofM l s o l.length i = if i ∈ o then none else some (cutL l (bnd i l.length s).1 (bnd i l.length s).2) := by
  have hp := (bnd_pos i l.length s).1.2 hs
  have hm := mul_bd hs.1 hs.2.1 hs.2.2
  unfold ofM cutL
  by_cases h : i ∈ o
  · rw [if_pos h, if_neg (fun h' => h'.2.2.2 h)]
  · rw [if_neg h, if_pos ⟨hs.2.1, by omega, hp, h⟩]
theorem has_of {l : List Int} {s : Int} {o : List Int} {i : Int} (hs : CR l.length s ∧ 0 ≤ i ∧ i * s < l.length) : hasP (ofM l s o l.length) l.length s i = decide (i ∉ o) := by
  have hp := (bnd_pos i l.length s).2.2.1 hs
  have h0 := (bnd_pos i l.length s).2.1
  unfold hasP slotLen
  rw [ofM_at hs, decide_eq_true hs, Bool.true_and]
  by_cases h : i ∈ o
  · rw [if_pos h]
    simp [h]
  · rw [if_neg h, decide_eq_true h, if_pos ⟨by omega, by omega, by omega⟩]
    simp only [Option.isSome_some, Option.getD_some, Bool.true_and, decide_eq_true_eq]
    unfold cutL
    rw [List.length_drop, List.length_take]
    omega
theorem piece_of {l : List Int} {s : Int} {o : List Int} {a c i : Int} (hs : CR l.length s ∧ 0 ≤ i ∧ i * s < l.length) (ho : i ∉ o) (hh : hits a c (bnd i l.length s).1 (bnd i l.length s).2) :
    piece (ofM l s o l.length) a c l.length s i = cutL l (mx a (i * s)) (mn c (mn (i * s + s) l.length)) := by
  have hb := bnd_in hs
  unfold piece
  rw [ofM_at hs, if_neg ho]
  unfold meet
  rw [if_pos hh]
  obtain ⟨_, ⟨h0, _, _⟩, hlt⟩ := hh
  rw [hb.1, hb.2] at *
  have m1 := mx_eq a (i * s)
  have m2 := mn_eq c (mn (i * s + s) l.length)
  simp only [Option.getD_some]
  exact cutL_cut l h0 (by omega) (by omega) (by omega)
theorem run_of {l : List Int} {s : Int} {o : List Int} {a c : Int} (h0 : SR a c) (h1 : c ≤ l.length) (h2 : CR l.length s) (d : Nat) : ∀ i : Int, (cof a c s).1 ≤ i → i + d = (cof a c s).2 →
    runB (ofM l s o l.length) a c l.length s d i (cutL l a (mn c (mx a (i * s)))) = if ∀ j ∈ o, ¬ (i ≤ j ∧ j < (cof a c s).2) then some (cutL l a c) else none := by
  have hs : 1 ≤ s ∧ s ≤ 64 := ⟨h2.2.2.1, h2.2.2.2⟩
  have e : cof a c s = (a / s, (c - 1) / s + 1) := by unfold cof; rw [if_pos ⟨h0, hs⟩]
  have hh := h0
  obtain ⟨g0, g1, g2⟩ := hh
  have k1 : a < (a / s + 1) * s := Int.lt_ediv_add_one_mul_self a (by omega)
  have k2 : (c - 1) / s * s ≤ c - 1 := Int.ediv_mul_le _ (by omega)
  have k6 : c - 1 < ((c - 1) / s + 1) * s := Int.lt_ediv_add_one_mul_self _ (by omega)
  have d0 := Int.ediv_nonneg g0 (show 0 ≤ s by omega)
  induction d with
  | zero =>
    intro i hi he
    rw [runB, if_pos (fun j _ h => by omega)]
    have hte : i = (c - 1) / s + 1 := by rw [e] at he; simp only at he; omega
    have m1 := mx_eq a (i * s)
    have m2 := mn_eq c (mx a (i * s))
    rw [← hte] at k6
    rw [show mn c (mx a (i * s)) = c by omega]
  | succ d ih =>
    intro i hi he
    have hlt : i < (cof a c s).2 := by omega
    have hhit := of_hits h0 h1 h2 hi hlt
    rw [e] at hi hlt
    simp only at hi hlt
    have k3 : (a / s + 1) * s ≤ (i + 1) * s := Int.mul_le_mul_of_nonneg_right (by omega) (by omega)
    have k4 : i * s ≤ (c - 1) / s * s := Int.mul_le_mul_of_nonneg_right (by omega) (by omega)
    have k5 : (i + 1) * s = i * s + s := by rw [Int.add_mul, Int.one_mul]
    have hslot : CR l.length s ∧ 0 ≤ i ∧ i * s < l.length := ⟨h2, by omega, by omega⟩
    have k7 : 0 ≤ i * s := Int.mul_nonneg (by omega) (by omega)
    rw [runB, has_of hslot]
    by_cases ho : i ∈ o
    · rw [if_neg (by simp [ho]), if_neg (fun h => h i ho ⟨Int.le_refl _, by rw [e]; exact hlt⟩)]
    · rw [if_pos (by simp [ho]), piece_of hslot ho hhit]
      have m1 := mx_eq a (i * s)
      have m2 := mn_eq c (mx a (i * s))
      have m3 := mn_eq (i * s + s) (l.length : Int)
      have m4 := mn_eq c (mn (i * s + s) l.length)
      have m5 := mx_eq a ((i + 1) * s)
      have m6 := mn_eq c (mx a ((i + 1) * s))
      rw [show mn c (mx a (i * s)) = mx a (i * s) by omega, cutL_app l g0 (by omega) (by omega) (by omega), show mn c (mn (i * s + s) l.length) = mn c (mx a ((i + 1) * s)) by omega]
      rw [ih (i + 1) (by rw [e]; show a / s ≤ i + 1; omega) (by push_cast at he; omega)]
      by_cases hall : ∀ j ∈ o, ¬ (i + 1 ≤ j ∧ j < (cof a c s).2)
      · rw [if_pos hall, if_pos (fun j hj h => by
          by_cases ej : j = i
          · rw [ej] at hj; exact ho hj
          · exact hall j hj ⟨by omega, h.2⟩)]
      · rw [if_neg hall, if_neg (fun h => hall (fun j hj hh => h j hj ⟨by omega, hh.2⟩))]
theorem body_of {l : List Int} {s : Int} {o : List Int} {a c : Int} (h2 : CR l.length s) : bodyP (ofM l s o l.length) a c l.length s = if SR a c ∧ c ≤ l.length ∧ ∀ j ∈ o, ¬ ((cof a c s).1 ≤ j ∧ j < (cof a c s).2) then some (cutL l a c) else none := by
  unfold bodyP
  by_cases h0 : SR a c
  · by_cases h1 : c ≤ (l.length : Int)
    · rw [if_pos ⟨h0, h1, h2⟩]
      have hb := cof_bd a c l.length s h0 h1 h2
      have hr := run_of (o := o) h0 h1 h2 ((cof a c s).2 - (cof a c s).1).toNat (cof a c s).1 (Int.le_refl _) (by omega)
      have hs : 1 ≤ s ∧ s ≤ 64 := ⟨h2.2.2.1, h2.2.2.2⟩
      have e : cof a c s = (a / s, (c - 1) / s + 1) := by unfold cof; rw [if_pos ⟨h0, hs⟩]
      have k2 : a / s * s ≤ a := Int.ediv_mul_le _ (by omega)
      have m1 := mx_eq a (a / s * s)
      have m2 := mn_eq c (mx a (a / s * s))
      have hlt := h0.2.1
      rw [show mn c (mx a ((cof a c s).1 * s)) = a by rw [e]; show mn c (mx a (a / s * s)) = a; omega, show cutL l a a = [] by unfold cutL; rw [List.drop_eq_nil_iff, List.length_take]; omega] at hr
      rw [hr]
      by_cases hall : ∀ j ∈ o, ¬ ((cof a c s).1 ≤ j ∧ j < (cof a c s).2)
      · rw [if_pos hall, if_pos ⟨h0, h1, hall⟩]
      · rw [if_neg hall, if_neg (fun h => hall h.2.2)]
    · rw [if_neg (fun h => h1 h.2.1), if_neg (fun h => h1 h.2.1)]
  · rw [if_neg (fun h => h0 h.1), if_neg (fun h => h0 h.1)]
end Go.Proofs.Ytiecjkkjcdjndaa.Asm
namespace Go.Proofs.Ytiecjkkjcdjndaa.Asm
open Go Go.RowKit Go.Shelf Go.Proofs Go.Proofs.Ytiecjkkjcdjndaa.Xw Go.Proofs.Ytiecjkkjcdjndaa.PAll Go.Proofs.YtiecjkkjcdjndaaW.PrintWords Go.Proofs.YtiecjkkjcdjndaaW.PrintLast Go.Proofs.YtiecjkkjcdjndaaW.PrintMore Go.Proofs.Ytiecjkkjcdjndaa.Mp Go.Proofs.Ytiecjkkjcdjndaa.Pure
attribute [local go_sem] Oper.semAt_some
end Go.Proofs.Ytiecjkkjcdjndaa.Asm
namespace Go.Proofs.Ytiecjkkjcdjndaa.Pure
open Go.RowKit Go.Proofs.Ytiecjkkjcdjndaa.PAll Go.Proofs.YtiecjkkjcdjndaaW.PrintWords Go.Proofs.YtiecjkkjcdjndaaW.PrintLast Go.Proofs.YtiecjkkjcdjndaaW.PrintMore
theorem bytes_loop (l m : List Int) (hl : l.length = m.length) (hb : l.length ≤ 9223372036854775807) (d : Nat) : ∀ i : Int, 0 ≤ i → i ≤ l.length → (l.length : Int) - i = d → l.take i.toNat = m.take i.toNat →
    Ev (fun k => spenceref01_Bytes.l0 k l m l.length i) (decide (l = m)) := by
  induction d with
  | zero =>
    intro i h0 h1 hd ht
    refine Ev.pos (fun k => ?_)
    simp only [spenceref01_Bytes.l0]
    rw [List.take_of_length_le (by omega), List.take_of_length_le (by omega)] at ht
    rw [if_neg (by omega), decide_eq_true ht]
  | succ d ih =>
    intro i h0 h1 hd ht
    have hi : i < l.length := by omega
    have a1 : i.toNat < l.length := by omega
    have a2 : i.toNat < m.length := by omega
    have r1 : rd l i = l[i.toNat] := by simp [rd, a1]
    have r2 : rd m i = m[i.toNat] := by simp [rd, a2]
    by_cases he : l[i.toNat] = m[i.toNat]
    · refine Ev.step (fun k => ?_) (ih (i + 1) (by omega) (by omega) (by omega) ?_)
      · simp only [spenceref01_Bytes.l0, r1, r2]
        rw [if_pos hi, if_pos h0, if_pos hi, if_pos (by omega), if_pos he, wrap_id (by omega)]
      · have e : (i + 1).toNat = i.toNat + 1 := by omega
        rw [e, List.take_succ_eq_append_getElem a1, List.take_succ_eq_append_getElem a2, ht, he]
    · refine Ev.pos (fun k => ?_)
      have hne : ¬ l = m := fun h => he (by subst h; rfl)
      simp only [spenceref01_Bytes.l0, r1, r2]
      rw [if_pos hi, if_pos h0, if_pos hi, if_pos (by omega), if_neg he, decide_eq_false hne]
theorem bytes_ev (l m : List Int) (hb : l.length ≤ 9223372036854775807) : Ev (fun k => spenceref01_Bytes.f k l m) (decide (l = m)) := by
  unfold spenceref01_Bytes.f
  by_cases h : l.length = m.length
  · simp only [show (l.length : Int) = (m.length : Int) by omega, if_true]
    have := bytes_loop l m h hb l.length 0 (by omega) (by omega) (by omega) rfl
    rw [h] at this
    exact this
  · simp only [show ¬ (l.length : Int) = (m.length : Int) by omega, if_false]
    rw [decide_eq_false (fun e => h (by rw [e]))]
    exact Ev.now _
end Go.Proofs.Ytiecjkkjcdjndaa.Pure
namespace Go.Proofs.Ytiecjkkjcdjndaa.Asm
open Go Go.RowKit Go.Shelf Go.Proofs Go.Proofs.Ytiecjkkjcdjndaa.Xw Go.Proofs.Ytiecjkkjcdjndaa.PAll Go.Proofs.YtiecjkkjcdjndaaW.PrintWords Go.Proofs.YtiecjkkjcdjndaaW.PrintLast Go.Proofs.YtiecjkkjcdjndaaW.PrintMore Go.Proofs.Ytiecjkkjcdjndaa.Mp Go.Proofs.Ytiecjkkjcdjndaa.Pure
attribute [local go_sem] Oper.semAt_some
theorem below_turned {B b : Nat} {w W W' : World} (h : Below B w W) (hT : W.mapTurned W' b) (hB : B ≤ b) (hs : B ≤ W.heap.size) : Below B w W' := pw_below_grown h (some b) hs hT.grown (fun k hk => by cases hk; exact hB)
theorem row_marked (W : World) (xs : List Int) (fr : Nat × Nat) (hl : xs.length ≤ 1000000) : RowB (W.alloc (.cells (nums .u8 xs).toArray 5 fr)) (.slice (some ⟨W.heap.size, 0, none⟩) xs.length xs.length) xs := by
  refine ⟨_, _, rfl, Nat.le_refl _, rfl, by omega, fun _ => ⟨_, rfl, fun j p hp => ⟨[.int .u8 p], rfl, rfl, fun i u hu => ?_⟩⟩⟩
  have hc := cell_of_row (W.alloc (.cells (nums .u8 xs).toArray 5 fr)) W.heap.size j (nums .u8 xs).toArray 5 fr (blk_new W _)
  rw [add_plain]
  cases i with
  | zero =>
    obtain rfl : Value.int .u8 p = u := by simpa using hu
    rw [show j * (Kd.int .u8).sz + 0 = j by show j * 1 + 0 = j; omega, hc]
    simp [nums, hp]
  | succ i => simp at hu
set_option maxRecDepth 100000 in
set_option maxHeartbeats 4000000 in
theorem awake_calls (w : World) : Calls Try.prog 6 #[] w fun e w' => e = .returned (.bool true) ∧ Below w.heap.size w w' := by
  have hmk := @run_makeMap Try.prog
  have hb0 : bodyP (putF (putF (fun _ => none) 0 [65, 66]) 1 [67]) 1 3 3 2 = some [66, 67] := by kernel_rfl
  have hM0 := Aside0.mk (MapB.made Try.prog 3 w)
  have hB0 := Aside0.mk (below_alloc (Below.refl w.heap.size w) (.map #[] 0))
  have hr1 : RowB ((w.alloc (.map #[] 0)).alloc (.cells #[.int .u8 65, .int .u8 66] 5 (2, 3))) (.slice (some ⟨w.heap.size + 1, 0, none⟩) 2 2) [65, 66] := by
    have := row_marked (w.alloc (.map #[] 0)) [65, 66] (2, 3) (by decide)
    rw [alloc_size] at this
    exact this
  replace hr1 := Aside0.mk hr1
  have hcv1 := Lib.run_convert_bytes_const (P := Try.prog) (w.alloc (.map #[] 0)) 22 5 #[.int .u8 65, .int .u8 66] 2 2 Try.underlying22 Try.underlying5
  have hcv2 := fun W1 => Lib.run_convert_bytes_const (P := Try.prog) W1 22 5 #[.int .u8 67] 1 1 Try.underlying22 Try.underlying5
  rw [alloc_size] at hcv1
  have hs1 : (strOfNums [66, 67]) = ⟨#[66, 67]⟩ := by kernel_rfl
  go_enter Try.func6, Try.ntmps6
  go_wp2_with (first | (refine wpList_ins (l := [65, 66]) rfl _ _ _ 27 rfl Try.underlying3 Try.underlying27 (n := 0) (by decide) rfl (hM0.out.below (below_alloc (Below.refl _ _) _)) (i := 0) rfl (by decide) rfl hr1.out ?_; intro W1 hM1 hT1; have hB1 := Aside0.mk (below_turned (below_alloc hB0.out (.cells #[.int .u8 65, .int .u8 66] 5 (2, 3))) hT1 (Nat.le_refl _) (below_alloc hB0.out (.cells #[.int .u8 65, .int .u8 66] 5 (2, 3))).size); have hr2 : Aside0 (RowB (W1.alloc (.cells #[.int .u8 67] 5 (1, 2))) (.slice (some ⟨W1.heap.size, 0, none⟩) 1 1) [67]) := Aside0.mk (row_marked W1 [67] (1, 2) (by decide))) | (refine wpList_ins (l := [67]) rfl _ _ _ 27 rfl Try.underlying3 Try.underlying27 (n := 1) (by decide) rfl (hM1.below (below_alloc (Below.refl _ _) _)) (i := 1) rfl (by decide) rfl hr2.out ?_; intro W2 hM2 hT2; have hB2 := Aside0.mk (below_turned (below_alloc hB1.out (.cells #[.int .u8 67] 5 (1, 2))) hT2 (Nat.le_refl _) (below_alloc hB1.out (.cells #[.int .u8 67] 5 (1, 2))).size); have CB := body_calls _ _ _ 1 3 3 2 W2 hM2; rw [hb0] at CB; replace CB := Aside0.mk CB) | (go_at_call 15; refine CB.out.mono ?_; rintro e W3 ⟨v, rfl, hrow, hb⟩; obtain ⟨A, c, rfl, hl, hC⟩ := own_row hrow; have hcs : (convert 22 9 (.slice A 2 c)).run Try.prog W3 = .ok (.string ⟨#[66, 67]⟩) W3 := by (have h_ := Kd.C_string (P := Try.prog) (src := 22) (dst := 9) (c := c) Try.underlying22 Try.underlying5 Try.underlying9 hC; simp only [Option.getD_some] at h_; rw [hs1] at h_; exact h_)))
  go_ret
  exact ⟨by first | rfl | simp, below_step hB2.out hb⟩
end Go.Proofs.Ytiecjkkjcdjndaa.Asm
namespace Go.Proofs.Ytiecjkkjcdjndaa.PAll
open Go.RowKit Go.Proofs.Ytiecjkkjcdjndaa.Xw Go.Proofs.YtiecjkkjcdjndaaW.PrintWords Go.Proofs.YtiecjkkjcdjndaaW.PrintLast Go.Proofs.YtiecjkkjcdjndaaW.PrintMore
attribute [local go_sem] max2_int min2_int max_two min_two max_three min_three max_four min_four   -- for this text's walks alone
set_option linter.unusedVariables false
set_option linter.unusedSimpArgs false
mutual
def spenceref04_Meet.j0 : Nat → Bool → Int → Int → Int → Int → Option (Int × Int)
  | 0, _, _, _, _, _ => none
  | k + 1, x12, x140000, x140001, x141000, x141001 => if x12 = true then (some (0, 0)) else (if x141000 > x140000 then (spenceref04_Meet.j1 k x141000 x140001 x141000 x141001) else (spenceref04_Meet.j1 k x140000 x140001 x141000 x141001))
def spenceref04_Meet.j1 : Nat → Int → Int → Int → Int → Option (Int × Int)
  | 0, _, _, _, _ => none
  | k + 1, x140000, x140001, x141000, x141001 => if x141001 < x140001 then (if x140000 ≥ x141001 then (some (0, 0)) else (some (x140000, x141001))) else (if x140000 ≥ x140001 then (some (0, 0)) else (some (x140000, x140001)))
end
def spenceref04_Meet.f (k : Nat) (a0_0 : Int) (a0_1 : Int) (a1_0 : Int) (a1_1 : Int) : Option (Int × Int) := (spenceref04_Right.f a0_0 a0_1).bind fun t142 => (if t142 = true then ((spenceref04_Right.f a1_0 a1_1).bind fun t143 => (spenceref04_Meet.j0 k (!t143) a0_0 a0_1 a1_0 a1_1)) else (spenceref04_Meet.j0 k true a0_0 a0_1 a1_0 a1_1))
theorem spenceref04_Meet.mono_l : ∀ k, (∀ y0 y1 y2 y3 y4, LeO (spenceref04_Meet.j0 k y0 y1 y2 y3 y4) (spenceref04_Meet.j0 (k + 1) y0 y1 y2 y3 y4)) ∧ (∀ y0 y1 y2 y3, LeO (spenceref04_Meet.j1 k y0 y1 y2 y3) (spenceref04_Meet.j1 (k + 1) y0 y1 y2 y3))
  | 0 => ⟨fun _ _ _ _ _ r h => by simp [spenceref04_Meet.j0] at h, fun _ _ _ _ r h => by simp [spenceref04_Meet.j1] at h⟩
  | k + 1 => by
    obtain ⟨ih0, ih1⟩ := spenceref04_Meet.mono_l k
    refine ⟨?_, ?_⟩
    · intro y0 y1 y2 y3 y4
      unfold spenceref04_Meet.j0
      repeat' first
      | (with_reducible exact ih0 _ _ _ _ _)
      | (with_reducible exact ih1 _ _ _ _)
      | (with_reducible exact LeO.refl _)
      | (with_reducible exact LeO.none _)
      | (with_reducible refine LeO.ite ?_ ?_)
      | (with_reducible refine LeO.bind ?_ (fun _ => ?_))
      | exact ih0 _ _ _ _ _
      | exact ih1 _ _ _ _
      | exact LeO.none _
      | refine LeO.ite ?_ ?_
      | refine LeO.bind ?_ (fun _ => ?_)
    · intro y0 y1 y2 y3
      unfold spenceref04_Meet.j1
      repeat' first
      | (with_reducible exact ih0 _ _ _ _ _)
      | (with_reducible exact ih1 _ _ _ _)
      | (with_reducible exact LeO.refl _)
      | (with_reducible exact LeO.none _)
      | (with_reducible refine LeO.ite ?_ ?_)
      | (with_reducible refine LeO.bind ?_ (fun _ => ?_))
      | exact ih0 _ _ _ _ _
      | exact ih1 _ _ _ _
      | exact LeO.none _
      | refine LeO.ite ?_ ?_
      | refine LeO.bind ?_ (fun _ => ?_)
theorem spenceref04_Meet.mono : ∀ a0 a1 a2 a3 k, LeO (spenceref04_Meet.f k a0 a1 a2 a3) (spenceref04_Meet.f (k + 1) a0 a1 a2 a3) := by
  intro a0 a1 a2 a3 k
  obtain ⟨ih0, ih1⟩ := spenceref04_Meet.mono_l k
  unfold spenceref04_Meet.f
  repeat' first
      | (with_reducible exact ih0 _ _ _ _ _)
      | (with_reducible exact ih1 _ _ _ _)
      | (with_reducible exact LeO.refl _)
      | (with_reducible exact LeO.none _)
      | (with_reducible refine LeO.ite ?_ ?_)
      | (with_reducible refine LeO.bind ?_ (fun _ => ?_))
      | exact ih0 _ _ _ _ _
      | exact ih1 _ _ _ _
      | exact LeO.none _
      | refine LeO.ite ?_ ?_
      | refine LeO.bind ?_ (fun _ => ?_)
set_option maxHeartbeats 8000000 in
set_option maxRecDepth 100000 in
theorem spenceref04_Meet.calls (k : Nat) (a0_0 : Int) (a0_1 : Int) (a1_0 : Int) (a1_1 : Int) (r1 : Int) (r2 : Int) (w : World) (h : spenceref04_Meet.f k a0_0 a0_1 a1_0 a1_1 = some (r1, r2)) :
    Calls Try.prog 23 #[.agg #[.int .i64 a0_0, .int .i64 a0_1], .agg #[.int .i64 a1_0, .int .i64 a1_1]] w fun e w' => e = .returned (.agg #[.int .i64 r1, .int .i64 r2]) ∧ Below w.heap.size w w' := by
  have hu31 := Try.underlying31
  have HB := Aside0.mk (Below.refl w.heap.size w)
  have H : ((spenceref04_Right.f a0_0 a0_1).bind fun t142 => (if t142 = true then ((spenceref04_Right.f a1_0 a1_1).bind fun t143 => (spenceref04_Meet.j0 k (!t143) a0_0 a0_1 a1_0 a1_1)) else (spenceref04_Meet.j0 k true a0_0 a0_1 a1_0 a1_1))) = some (r1, r2) := h
  clear h
  have HC3 := Aside0.mk H
  clear H
  go_enter Try.func23, Try.ntmps23
  go_upto_region 1 with (first | ((with_reducible refine gate_dst (N := 2) rfl ?_); refine box_event ?hg (N := 2) ?hd (cs := #[.int .i64 a0_0, .int .i64 a0_1]) (t := 31) ?hr ?_; (case hd => rfl); (case hg => rfl); (case hr => first | (go_simp; done) | (go_simp; rfl)); intro gb139 hg w4 hbox hb; have n0_ := Aside0.mk (below_step (by repeat (first | (with_reducible first | exact HB.out | apply below_alloc | apply pw_below_drewN | apply below_drew1) | exact HB.out)) hb); have n1_ := Aside0.mk (hbox); have n2_ := Aside0.mk ((by rw [hg]; exact (below_size (by repeat (first | (with_reducible first | exact HB.out | apply below_alloc | apply pw_below_drewN | apply below_drew1) | exact HB.out))) : w.heap.size ≤ gb139)); have n3_ := Aside0.mk ((by rw [hg]; exact (below_size (by repeat (first | (with_reducible first | exact HB.out | apply below_alloc | apply pw_below_drewN | apply below_drew1) | exact HB.out))) : w.heap.size ≤ gb139)); clear HB; have HB := n0_; have BK139 := n1_; have GW139 := n2_; have GE139 := n3_; clear n0_ n1_ n2_ n3_; clear hb hbox hg) | ((with_reducible refine gate_dst (N := 3) rfl ?_); refine box_event ?hg (N := 3) ?hd (cs := #[.int .i64 a1_0, .int .i64 a1_1]) (t := 31) ?hr ?_; (case hd => rfl); (case hg => rfl); (case hr => first | (go_simp; done) | (go_simp; rfl)); intro gb140 hg w5 hbox hb; have n0_ := Aside0.mk (blk_below (g := gb139) (o := .cells #[.int .i64 a0_0, .int .i64 a0_1] 31 (0, 0)) (by (with_reducible repeat (first | refine blk_drewN ?_ _ | refine blk_drew ?_ | refine blk_alloc ?_ _)); exact BK139.out) hb); have n1_ := Aside0.mk (below_step (by repeat (first | (with_reducible first | exact HB.out | apply below_alloc | apply pw_below_drewN | apply below_drew1 | refine below_set ?_ GE139.out) | exact HB.out)) hb); have n2_ := Aside0.mk (hbox); have n3_ := Aside0.mk ((by rw [hg]; exact (below_size (by repeat (first | (with_reducible first | exact HB.out | apply below_alloc | apply pw_below_drewN | apply below_drew1 | refine below_set ?_ GE139.out) | exact HB.out))) : w.heap.size ≤ gb140)); have n4_ := Aside0.mk ((by rw [hg]; exact (below_size (by repeat (first | (with_reducible first | exact HB.out | apply below_alloc | apply pw_below_drewN | apply below_drew1 | refine below_set ?_ GE139.out) | exact HB.out))) : w.heap.size ≤ gb140)); have n5_ := Aside0.mk ((by rw [hg]; exact Nat.ne_of_lt (blk_lt (g := gb139) (o := .cells #[.int .i64 a0_0, .int .i64 a0_1] 31 (0, 0)) (by (with_reducible repeat (first | refine blk_drewN ?_ _ | refine blk_drew ?_ | refine blk_alloc ?_ _)); exact BK139.out)) : gb139 ≠ gb140)); have n6_ := Aside0.mk ((by rw [hg]; exact Nat.ne_of_gt (blk_lt (g := gb139) (o := .cells #[.int .i64 a0_0, .int .i64 a0_1] 31 (0, 0)) (by (with_reducible repeat (first | refine blk_drewN ?_ _ | refine blk_drew ?_ | refine blk_alloc ?_ _)); exact BK139.out)) : gb140 ≠ gb139)); clear BK139; clear HB; have BK139 := n0_; have HB := n1_; have BK140 := n2_; have GW140 := n3_; have GE140 := n4_; have NB139_140 := n5_; have NB140_139 := n6_; clear n0_ n1_ n2_ n3_ n4_ n5_ n6_; clear hb hbox hg) | ((with_reducible refine gate_dst (N := 4) rfl ?_); refine box_event ?hg (N := 4) ?hd (cs := #[.int .i64 0, .int .i64 0]) (t := 31) ?hr ?_; (case hd => rfl); (case hg => rfl); (case hr => first | (go_simp; done) | (go_simp; rfl)); intro gb141 hg w6 hbox hb; have n0_ := Aside0.mk (blk_below (g := gb139) (o := .cells #[.int .i64 a0_0, .int .i64 a0_1] 31 (0, 0)) (by (with_reducible repeat (first | refine blk_drewN ?_ _ | refine blk_drew ?_ | refine blk_alloc ?_ _)); exact BK139.out) hb); have n1_ := Aside0.mk (blk_below (g := gb140) (o := .cells #[.int .i64 a1_0, .int .i64 a1_1] 31 (0, 0)) (by (with_reducible repeat (first | refine blk_drewN ?_ _ | refine blk_drew ?_ | refine blk_alloc ?_ _)); exact BK140.out) hb); have n2_ := Aside0.mk (below_step (by repeat (first | (with_reducible first | exact HB.out | apply below_alloc | apply pw_below_drewN | apply below_drew1 | refine below_set ?_ GE139.out | refine below_set ?_ GE140.out) | exact HB.out)) hb); have n3_ := Aside0.mk (hbox); have n4_ := Aside0.mk ((by rw [hg]; exact (below_size (by repeat (first | (with_reducible first | exact HB.out | apply below_alloc | apply pw_below_drewN | apply below_drew1 | refine below_set ?_ GE139.out | refine below_set ?_ GE140.out) | exact HB.out))) : w.heap.size ≤ gb141)); have n5_ := Aside0.mk ((by rw [hg]; exact (below_size (by repeat (first | (with_reducible first | exact HB.out | apply below_alloc | apply pw_below_drewN | apply below_drew1 | refine below_set ?_ GE139.out | refine below_set ?_ GE140.out) | exact HB.out))) : w.heap.size ≤ gb141)); have n6_ := Aside0.mk ((by rw [hg]; exact Nat.ne_of_lt (blk_lt (g := gb139) (o := .cells #[.int .i64 a0_0, .int .i64 a0_1] 31 (0, 0)) (by (with_reducible repeat (first | refine blk_drewN ?_ _ | refine blk_drew ?_ | refine blk_alloc ?_ _)); exact BK139.out)) : gb139 ≠ gb141)); have n7_ := Aside0.mk ((by rw [hg]; exact Nat.ne_of_gt (blk_lt (g := gb139) (o := .cells #[.int .i64 a0_0, .int .i64 a0_1] 31 (0, 0)) (by (with_reducible repeat (first | refine blk_drewN ?_ _ | refine blk_drew ?_ | refine blk_alloc ?_ _)); exact BK139.out)) : gb141 ≠ gb139)); have n8_ := Aside0.mk ((by rw [hg]; exact Nat.ne_of_lt (blk_lt (g := gb140) (o := .cells #[.int .i64 a1_0, .int .i64 a1_1] 31 (0, 0)) (by (with_reducible repeat (first | refine blk_drewN ?_ _ | refine blk_drew ?_ | refine blk_alloc ?_ _)); exact BK140.out)) : gb140 ≠ gb141)); have n9_ := Aside0.mk ((by rw [hg]; exact Nat.ne_of_gt (blk_lt (g := gb140) (o := .cells #[.int .i64 a1_0, .int .i64 a1_1] 31 (0, 0)) (by (with_reducible repeat (first | refine blk_drewN ?_ _ | refine blk_drew ?_ | refine blk_alloc ?_ _)); exact BK140.out)) : gb141 ≠ gb140)); clear BK139; clear BK140; clear HB; have BK139 := n0_; have BK140 := n1_; have HB := n2_; have BK141 := n3_; have GW141 := n4_; have GE141 := n5_; have NB139_141 := n6_; have NB141_139 := n7_; have NB140_141 := n8_; have NB141_140 := n9_; clear n0_ n1_ n2_ n3_ n4_ n5_ n6_ n7_ n8_ n9_; clear hb hbox hg))
  (try simp only [Act.put, List.setIfInBounds_toArray, List.set_cons_zero, List.set_cons_succ])
  go_cut [12] (fun v12 wc => ∃ (kq : Nat) (x12_2 : Bool), v12 = .bool x12_2 ∧ Aside0 (spenceref04_Meet.j0 kq x12_2 a0_0 a0_1 a1_0 a1_1 = some (r1, r2)) ∧ Aside0 (kq ≤ k) ∧ Aside0 (wc.heap[gb139]? = some (.cells #[.int .i64 a0_0, .int .i64 a0_1] 31 (0, 0))) ∧ Aside0 (wc.heap[gb140]? = some (.cells #[.int .i64 a1_0, .int .i64 a1_1] 31 (0, 0))) ∧ Aside0 (wc.heap[gb141]? = some (.cells #[.int .i64 0, .int .i64 0] 31 (0, 0))) ∧ Aside0 (Below w.heap.size w wc))
  case first =>
    have H := HC3.out
    clear HC3
    replace H := Option.bind_eq_some_iff.mp H
    obtain ⟨t142, A70, H⟩ := H
    replace H : (if t142 = true then ((spenceref04_Right.f a1_0 a1_1).bind fun t143 => (spenceref04_Meet.j0 k (!t143) a0_0 a0_1 a1_0 a1_1)) else (spenceref04_Meet.j0 k true a0_0 a0_1 a1_0 a1_1)) = some (r1, r2) := H
    have A7 := Aside0.mk A70
    clear A70
    by_cases c8 : t142 = true
    · subst c8
      have H1 : ((spenceref04_Right.f a1_0 a1_1).bind fun t143 => (spenceref04_Meet.j0 k (!t143) a0_0 a0_1 a1_0 a1_1)) = some (r1, r2) := by rw [if_pos rfl] at H; exact H
      clear H
      have H := H1
      clear H1
      replace H := Option.bind_eq_some_iff.mp H
      obtain ⟨t143, A90, H⟩ := H
      replace H : (spenceref04_Meet.j0 k (!t143) a0_0 a0_1 a1_0 a1_1) = some (r1, r2) := H
      have A9 := Aside0.mk A90
      clear A90
      have H' := Aside0.mk H
      clear H
      have hnb10 := NB139_140.out
      have hnc10 := NB140_139.out
      have hnb11 := NB139_141.out
      have hnc11 := NB141_139.out
      have hcz12_0 : w6.cell? ⟨gb139, 0, none⟩ = some (.int .i64 a0_0) := (blk_cell BK139.out 0).trans rfl
      have hcz12_1 : w6.cell? ⟨gb139, 1, none⟩ = some (.int .i64 a0_1) := (blk_cell BK139.out 1).trans rfl
      have hfz12_0 := blk_frozen BK139.out 0
      have hfz12_1 := blk_frozen BK139.out 1
      go_wp2_with (first | ((with_reducible refine gate_callee (f := 12) rfl ?_); refine goesL_ (some 6) rfl rfl Try.func12 (by kernel_rfl) rfl #[.agg #[.int .i64 a0_0, .int .i64 a0_1]] rfl (by (try simp only [List.map_toArray, List.map_cons, List.map_nil]); first | done | rfl | (simp only [List.length_drop, List.length_take]; rfl)) ?_; (with_reducible refine (spenceref04_Right.calls a0_0 a0_1 true _ A7.out).mono ?_); rintro e w13 ⟨rfl, hb⟩; refine ⟨_, rfl, ?_⟩; have n0_ := Aside0.mk (blk_below (g := gb139) (o := .cells #[.int .i64 a0_0, .int .i64 a0_1] 31 (0, 0)) (by (with_reducible repeat (first | refine blk_drewN ?_ _ | refine blk_drew ?_ | refine blk_alloc ?_ _)); exact BK139.out) hb); have n1_ := Aside0.mk (blk_below (g := gb140) (o := .cells #[.int .i64 a1_0, .int .i64 a1_1] 31 (0, 0)) (by (with_reducible repeat (first | refine blk_drewN ?_ _ | refine blk_drew ?_ | refine blk_alloc ?_ _)); exact BK140.out) hb); have n2_ := Aside0.mk (blk_below (g := gb141) (o := .cells #[.int .i64 0, .int .i64 0] 31 (0, 0)) (by (with_reducible repeat (first | refine blk_drewN ?_ _ | refine blk_drew ?_ | refine blk_alloc ?_ _)); exact BK141.out) hb); have n3_ := Aside0.mk (below_step (by repeat (first | (with_reducible first | exact HB.out | apply below_alloc | apply pw_below_drewN | apply below_drew1 | refine below_set ?_ GE139.out | refine below_set ?_ GE140.out | refine below_set ?_ GE141.out) | exact HB.out)) hb); clear BK139; clear BK140; clear BK141; clear HB; have BK139 := n0_; have BK140 := n1_; have BK141 := n2_; have HB := n3_; clear n0_ n1_ n2_ n3_; (try clear hb); (try clear hb2); (try clear hk); (try clear hi); have hnb14 := NB140_141.out; have hnc14 := NB141_140.out; have hcz15_0 : w13.cell? ⟨gb140, 0, none⟩ = some (.int .i64 a1_0) := (blk_cell BK140.out 0).trans rfl; have hcz15_1 : w13.cell? ⟨gb140, 1, none⟩ = some (.int .i64 a1_1) := (blk_cell BK140.out 1).trans rfl; have hfz15_0 := blk_frozen BK140.out 0; have hfz15_1 := blk_frozen BK140.out 1) | (go_at_call 12; (with_reducible refine (spenceref04_Right.calls a1_0 a1_1 t143 _ A9.out).mono ?_); rintro e w16 ⟨rfl, hb⟩; have n0_ := Aside0.mk (blk_below (g := gb139) (o := .cells #[.int .i64 a0_0, .int .i64 a0_1] 31 (0, 0)) (by (with_reducible repeat (first | refine blk_drewN ?_ _ | refine blk_drew ?_ | refine blk_alloc ?_ _)); exact BK139.out) hb); have n1_ := Aside0.mk (blk_below (g := gb140) (o := .cells #[.int .i64 a1_0, .int .i64 a1_1] 31 (0, 0)) (by (with_reducible repeat (first | refine blk_drewN ?_ _ | refine blk_drew ?_ | refine blk_alloc ?_ _)); exact BK140.out) hb); have n2_ := Aside0.mk (blk_below (g := gb141) (o := .cells #[.int .i64 0, .int .i64 0] 31 (0, 0)) (by (with_reducible repeat (first | refine blk_drewN ?_ _ | refine blk_drew ?_ | refine blk_alloc ?_ _)); exact BK141.out) hb); have n3_ := Aside0.mk (below_step (by repeat (first | (with_reducible first | exact HB.out | apply below_alloc | apply pw_below_drewN | apply below_drew1 | refine below_set ?_ GE139.out | refine below_set ?_ GE140.out | refine below_set ?_ GE141.out) | exact HB.out)) hb); clear BK139; clear BK140; clear BK141; clear HB; have BK139 := n0_; have BK140 := n1_; have BK141 := n2_; have HB := n3_; clear n0_ n1_ n2_ n3_; (try clear hb); (try clear hb2); (try clear hk); (try clear hi)))
      go_meet
      case rel => exact ⟨_, (!t143), (by first | rfl | (simp; done) | (simp [*]; done)), H', ⟨by first | omega | exact Nat.le_refl _⟩, ⟨by (with_reducible repeat (first | refine blk_drewN ?_ _ | refine blk_drew ?_ | refine blk_alloc ?_ _)); exact BK139.out⟩, ⟨by (with_reducible repeat (first | refine blk_drewN ?_ _ | refine blk_drew ?_ | refine blk_alloc ?_ _)); exact BK140.out⟩, ⟨by (with_reducible repeat (first | refine blk_drewN ?_ _ | refine blk_drew ?_ | refine blk_alloc ?_ _)); exact BK141.out⟩, ⟨by repeat (first | (with_reducible first | exact HB.out | apply below_alloc | apply pw_below_drewN | apply below_drew1 | refine below_set ?_ GE139.out | refine below_set ?_ GE140.out | refine below_set ?_ GE141.out) | exact HB.out)⟩⟩
    · replace c8 := Bool.eq_false_iff.mpr c8
      subst c8
      have H1 : (spenceref04_Meet.j0 k true a0_0 a0_1 a1_0 a1_1) = some (r1, r2) := by rw [if_neg (show ¬ (false = true) by decide)] at H; exact H
      clear H
      have H := H1
      clear H1
      have H' := Aside0.mk H
      clear H
      have hnb17 := NB139_140.out
      have hnc17 := NB140_139.out
      have hnb18 := NB139_141.out
      have hnc18 := NB141_139.out
      have hcz19_0 : w6.cell? ⟨gb139, 0, none⟩ = some (.int .i64 a0_0) := (blk_cell BK139.out 0).trans rfl
      have hcz19_1 : w6.cell? ⟨gb139, 1, none⟩ = some (.int .i64 a0_1) := (blk_cell BK139.out 1).trans rfl
      have hfz19_0 := blk_frozen BK139.out 0
      have hfz19_1 := blk_frozen BK139.out 1
      go_wp2_with (first | ((with_reducible refine gate_callee (f := 12) rfl ?_); refine goesL_ (some 6) rfl rfl Try.func12 (by kernel_rfl) rfl #[.agg #[.int .i64 a0_0, .int .i64 a0_1]] rfl (by (try simp only [List.map_toArray, List.map_cons, List.map_nil]); first | done | rfl | (simp only [List.length_drop, List.length_take]; rfl)) ?_; (with_reducible refine (spenceref04_Right.calls a0_0 a0_1 false _ A7.out).mono ?_); rintro e w20 ⟨rfl, hb⟩; refine ⟨_, rfl, ?_⟩; have n0_ := Aside0.mk (blk_below (g := gb139) (o := .cells #[.int .i64 a0_0, .int .i64 a0_1] 31 (0, 0)) (by (with_reducible repeat (first | refine blk_drewN ?_ _ | refine blk_drew ?_ | refine blk_alloc ?_ _)); exact BK139.out) hb); have n1_ := Aside0.mk (blk_below (g := gb140) (o := .cells #[.int .i64 a1_0, .int .i64 a1_1] 31 (0, 0)) (by (with_reducible repeat (first | refine blk_drewN ?_ _ | refine blk_drew ?_ | refine blk_alloc ?_ _)); exact BK140.out) hb); have n2_ := Aside0.mk (blk_below (g := gb141) (o := .cells #[.int .i64 0, .int .i64 0] 31 (0, 0)) (by (with_reducible repeat (first | refine blk_drewN ?_ _ | refine blk_drew ?_ | refine blk_alloc ?_ _)); exact BK141.out) hb); have n3_ := Aside0.mk (below_step (by repeat (first | (with_reducible first | exact HB.out | apply below_alloc | apply pw_below_drewN | apply below_drew1 | refine below_set ?_ GE139.out | refine below_set ?_ GE140.out | refine below_set ?_ GE141.out) | exact HB.out)) hb); clear BK139; clear BK140; clear BK141; clear HB; have BK139 := n0_; have BK140 := n1_; have BK141 := n2_; have HB := n3_; clear n0_ n1_ n2_ n3_; (try clear hb); (try clear hb2); (try clear hk); (try clear hi)))
      go_meet
      case rel => exact ⟨_, (true), (by first | rfl | (simp; done) | (simp [*]; done)), H', ⟨by first | omega | exact Nat.le_refl _⟩, ⟨by (with_reducible repeat (first | refine blk_drewN ?_ _ | refine blk_drew ?_ | refine blk_alloc ?_ _)); exact BK139.out⟩, ⟨by (with_reducible repeat (first | refine blk_drewN ?_ _ | refine blk_drew ?_ | refine blk_alloc ?_ _)); exact BK140.out⟩, ⟨by (with_reducible repeat (first | refine blk_drewN ?_ _ | refine blk_drew ?_ | refine blk_alloc ?_ _)); exact BK141.out⟩, ⟨by repeat (first | (with_reducible first | exact HB.out | apply below_alloc | apply pw_below_drewN | apply below_drew1 | refine below_set ?_ GE139.out | refine below_set ?_ GE140.out | refine below_set ?_ GE141.out) | exact HB.out)⟩⟩
  case rest =>
    clear HC3
    try clear c1
    try clear c2
    try clear p2
    try clear c8
    try clear c10
    try clear c11
    try clear c12
    try clear c14
    try clear c17
    try clear c18
    try clear hcz12_0
    try clear hcz12_1
    try clear hcz15_0
    try clear hcz15_1
    try clear hcz19_0
    try clear hcz19_1
    try clear hfz12_0
    try clear hfz12_1
    try clear hfz15_0
    try clear hfz15_1
    try clear hfz19_0
    try clear hfz19_1
    obtain ⟨kq, x12_2, rfl, HA, HJ2, BK139, BK140, BK141, HB⟩ := hcut
    cases kq with
    | zero => exact absurd HA.out (by simp [spenceref04_Meet.j0])
    | succ kj2 =>
      have H := HA.out
      clear HA
      simp only [spenceref04_Meet.j0] at H
      by_cases c21 : x12_2 = true
      · subst c21
        have H1 : (some (0, 0)) = some (r1, r2) := by rw [if_pos rfl] at H; exact H
        clear H
        have H := H1
        clear H1
        simp only [Option.some.injEq, Prod.mk.injEq] at H
        obtain ⟨rfl, rfl⟩ := H
        have hnb22 := NB141_139.out
        have hnc22 := NB139_141.out
        have hnb23 := NB141_140.out
        have hnc23 := NB140_141.out
        have hcz24_0 : wc.cell? ⟨gb141, 0, none⟩ = some (.int .i64 0) := (blk_cell BK141.out 0).trans rfl
        have hcz24_1 : wc.cell? ⟨gb141, 1, none⟩ = some (.int .i64 0) := (blk_cell BK141.out 1).trans rfl
        have hfz24_0 := blk_frozen BK141.out 0
        have hfz24_1 := blk_frozen BK141.out 1
        go_wp2
        refine bodyPost_ret (results_cell_row rfl _ _ gb141 31 #[.int .i64 0, .int .i64 0] (0, 0) _ rfl (by (with_reducible repeat (first | refine blk_drewN ?_ _ | refine blk_drew ?_ | refine blk_alloc ?_ _)); refine blk_put (cs := #[.int .i64 0, .int .i64 0]) ?_ 1 _ rfl; (with_reducible repeat (first | refine blk_drewN ?_ _ | refine blk_drew ?_ | refine blk_alloc ?_ _)); refine blk_put (cs := #[.int .i64 0, .int .i64 0]) ?_ 0 _ rfl; (with_reducible repeat (first | refine blk_drewN ?_ _ | refine blk_drew ?_ | refine blk_alloc ?_ _)); exact BK141.out) Try.underlying31 rfl (by kernel_rfl)) rfl ?_
        exact ⟨by first | rfl | exact ne_empty _ | exact eq_empty _ | (simp [errW_none, errW_some] <;> rfl) | (simp [*, errW_none, errW_some] <;> rfl), by repeat (first | (with_reducible first | exact HB.out | apply below_alloc | apply pw_below_drewN | apply below_drew1 | refine below_set ?_ GE139.out | refine below_set ?_ GE140.out | refine below_set ?_ GE141.out) | exact HB.out)⟩
      · replace c21 := Bool.eq_false_iff.mpr c21
        subst c21
        have H1 : (if a1_0 > a0_0 then (spenceref04_Meet.j1 kj2 a1_0 a0_1 a1_0 a1_1) else (spenceref04_Meet.j1 kj2 a0_0 a0_1 a1_0 a1_1)) = some (r1, r2) := by rw [if_neg (show ¬ (false = true) by decide)] at H; exact H
        clear H
        have H := H1
        clear H1
        have HC25 := Aside0.mk H
        clear H
        have hnb26 := NB140_139.out
        have hnc26 := NB139_140.out
        have hnb27 := NB140_141.out
        have hnc27 := NB141_140.out
        have hcz28_0 : wc.cell? ⟨gb140, 0, none⟩ = some (.int .i64 a1_0) := (blk_cell BK140.out 0).trans rfl
        have hcz28_1 : wc.cell? ⟨gb140, 1, none⟩ = some (.int .i64 a1_1) := (blk_cell BK140.out 1).trans rfl
        have hfz28_0 := blk_frozen BK140.out 0
        have hfz28_1 := blk_frozen BK140.out 1
        have hnb29 := NB139_141.out
        have hnc29 := NB141_139.out
        have hcz30_0 : wc.cell? ⟨gb139, 0, none⟩ = some (.int .i64 a0_0) := (blk_cell BK139.out 0).trans rfl
        have hcz30_1 : wc.cell? ⟨gb139, 1, none⟩ = some (.int .i64 a0_1) := (blk_cell BK139.out 1).trans rfl
        have hfz30_0 := blk_frozen BK139.out 0
        have hfz30_1 := blk_frozen BK139.out 1
        go_upto_if 18 with (fail)
        go_cut [] (fun wc => ∃ (kq : Nat) (x140000_24 : Int), Aside0 (spenceref04_Meet.j1 kq x140000_24 a0_1 a1_0 a1_1 = some (r1, r2)) ∧ Aside0 (kq ≤ kj2) ∧ Aside0 (wc.heap[gb139]? = some (.cells #[.int .i64 x140000_24, .int .i64 a0_1] 31 (0, 0))) ∧ Aside0 (wc.heap[gb140]? = some (.cells #[.int .i64 a1_0, .int .i64 a1_1] 31 (0, 0))) ∧ Aside0 (wc.heap[gb141]? = some (.cells #[.int .i64 0, .int .i64 0] 31 (0, 0))) ∧ Aside0 (Below w.heap.size w wc))
        case first =>
          have H := HC25.out
          clear HC25
          by_cases c31 : a1_0 > a0_0
          · rw [if_pos c31] at H
            have c31b0 : decide (a0_0 < a1_0) = true := decide_eq_true c31
            clear c31
            (first | rw [c31b0] | (simp only [i64_w, i32_w]; rw [c31b0]) | skip)
            have H' := Aside0.mk H
            clear H
            have hnb32 := NB140_139.out
            have hnc32 := NB139_140.out
            have hnb33 := NB140_141.out
            have hnc33 := NB141_140.out
            have hcz34_0 : wc.cell? ⟨gb140, 0, none⟩ = some (.int .i64 a1_0) := (blk_cell BK140.out 0).trans rfl
            have hcz34_1 : wc.cell? ⟨gb140, 1, none⟩ = some (.int .i64 a1_1) := (blk_cell BK140.out 1).trans rfl
            have hfz34_0 := blk_frozen BK140.out 0
            have hfz34_1 := blk_frozen BK140.out 1
            have hnb35 := NB139_141.out
            have hnc35 := NB141_139.out
            have hcz36_0 : wc.cell? ⟨gb139, 0, none⟩ = some (.int .i64 a0_0) := (blk_cell BK139.out 0).trans rfl
            have hcz36_1 : wc.cell? ⟨gb139, 1, none⟩ = some (.int .i64 a0_1) := (blk_cell BK139.out 1).trans rfl
            have hfz36_0 := blk_frozen BK139.out 0
            have hfz36_1 := blk_frozen BK139.out 1
            go_wp2
            go_meet
            case rel => exact ⟨_, (a1_0), H', ⟨by have := HJ2.out; first | omega | exact Nat.le_refl _⟩, ⟨by (with_reducible repeat (first | refine blk_drewN ?_ _ | refine blk_drew ?_ | refine blk_alloc ?_ _)); refine blk_put (cs := #[.int .i64 a0_0, .int .i64 a0_1]) ?_ 0 _ rfl; (with_reducible repeat (first | refine blk_drewN ?_ _ | refine blk_drew ?_ | refine blk_alloc ?_ _)); exact BK139.out⟩, ⟨by (with_reducible repeat (first | refine blk_drewN ?_ _ | refine blk_drew ?_ | refine blk_alloc ?_ _)); refine blk_far ?_ NB140_139.out _; (with_reducible repeat (first | refine blk_drewN ?_ _ | refine blk_drew ?_ | refine blk_alloc ?_ _)); exact BK140.out⟩, ⟨by (with_reducible repeat (first | refine blk_drewN ?_ _ | refine blk_drew ?_ | refine blk_alloc ?_ _)); refine blk_far ?_ NB141_139.out _; (with_reducible repeat (first | refine blk_drewN ?_ _ | refine blk_drew ?_ | refine blk_alloc ?_ _)); exact BK141.out⟩, ⟨by repeat (first | (with_reducible first | exact HB.out | apply below_alloc | apply pw_below_drewN | apply below_drew1 | refine below_set ?_ GE139.out | refine below_set ?_ GE140.out | refine below_set ?_ GE141.out) | exact HB.out)⟩⟩
          · rw [if_neg c31] at H
            have c31b0 : decide (a0_0 < a1_0) = false := decide_eq_false c31
            clear c31
            (first | rw [c31b0] | (simp only [i64_w, i32_w]; rw [c31b0]) | skip)
            have H' := Aside0.mk H
            clear H
            go_wp2
            go_meet
            case rel => exact ⟨_, (a0_0), H', ⟨by have := HJ2.out; first | omega | exact Nat.le_refl _⟩, ⟨by (with_reducible repeat (first | refine blk_drewN ?_ _ | refine blk_drew ?_ | refine blk_alloc ?_ _)); exact BK139.out⟩, ⟨by (with_reducible repeat (first | refine blk_drewN ?_ _ | refine blk_drew ?_ | refine blk_alloc ?_ _)); exact BK140.out⟩, ⟨by (with_reducible repeat (first | refine blk_drewN ?_ _ | refine blk_drew ?_ | refine blk_alloc ?_ _)); exact BK141.out⟩, ⟨by repeat (first | (with_reducible first | exact HB.out | apply below_alloc | apply pw_below_drewN | apply below_drew1 | refine below_set ?_ GE139.out | refine below_set ?_ GE140.out | refine below_set ?_ GE141.out) | exact HB.out)⟩⟩
        case rest =>
          clear HC25
          try clear c1
          try clear c2
          try clear p2
          try clear c3
          try clear c8
          try clear c10
          try clear c11
          try clear c12
          try clear c14
          try clear c17
          try clear c18
          try clear c21
          try clear c22
          try clear c23
          try clear c26
          try clear c27
          try clear c29
          try clear c31
          try clear c31b0
          try clear c32
          try clear c33
          try clear c35
          try clear hcz12_0
          try clear hcz12_1
          try clear hcz15_0
          try clear hcz15_1
          try clear hcz19_0
          try clear hcz19_1
          try clear hcz24_0
          try clear hcz24_1
          try clear hcz28_0
          try clear hcz28_1
          try clear hcz30_0
          try clear hcz30_1
          try clear hcz34_0
          try clear hcz34_1
          try clear hcz36_0
          try clear hcz36_1
          try clear hfz12_0
          try clear hfz12_1
          try clear hfz15_0
          try clear hfz15_1
          try clear hfz19_0
          try clear hfz19_1
          try clear hfz24_0
          try clear hfz24_1
          try clear hfz28_0
          try clear hfz28_1
          try clear hfz30_0
          try clear hfz30_1
          try clear hfz34_0
          try clear hfz34_1
          try clear hfz36_0
          try clear hfz36_1
          try clear p2
          obtain ⟨kq, x140000_24, HA, HJ24, BK139, BK140, BK141, HB⟩ := hcut
          cases kq with
          | zero => exact absurd HA.out (by simp [spenceref04_Meet.j1])
          | succ kj24 =>
            have H := HA.out
            clear HA
            simp only [spenceref04_Meet.j1] at H
            by_cases c37 : a1_1 < a0_1
            · rw [if_pos c37] at H
              have c37b0 : decide (a1_1 < a0_1) = true := decide_eq_true c37
              clear c37
              by_cases c38 : x140000_24 ≥ a1_1
              · rw [if_pos c38] at H
                have c38b0 : decide (a1_1 ≤ x140000_24) = true := decide_eq_true c38
                clear c38
                simp only [Option.some.injEq, Prod.mk.injEq] at H
                obtain ⟨rfl, rfl⟩ := H
                have hnb39 := NB140_139.out
                have hnc39 := NB139_140.out
                have hnb40 := NB140_141.out
                have hnc40 := NB141_140.out
                have hcz41_0 : wc.cell? ⟨gb140, 0, none⟩ = some (.int .i64 a1_0) := (blk_cell BK140.out 0).trans rfl
                have hcz41_1 : wc.cell? ⟨gb140, 1, none⟩ = some (.int .i64 a1_1) := (blk_cell BK140.out 1).trans rfl
                have hfz41_0 := blk_frozen BK140.out 0
                have hfz41_1 := blk_frozen BK140.out 1
                have hnb42 := NB139_141.out
                have hnc42 := NB141_139.out
                have hcz43_0 : wc.cell? ⟨gb139, 0, none⟩ = some (.int .i64 x140000_24) := (blk_cell BK139.out 0).trans rfl
                have hcz43_1 : wc.cell? ⟨gb139, 1, none⟩ = some (.int .i64 a0_1) := (blk_cell BK139.out 1).trans rfl
                have hfz43_0 := blk_frozen BK139.out 0
                have hfz43_1 := blk_frozen BK139.out 1
                have hcz44_0 : wc.cell? ⟨gb141, 0, none⟩ = some (.int .i64 0) := (blk_cell BK141.out 0).trans rfl
                have hcz44_1 : wc.cell? ⟨gb141, 1, none⟩ = some (.int .i64 0) := (blk_cell BK141.out 1).trans rfl
                have hfz44_0 := blk_frozen BK141.out 0
                have hfz44_1 := blk_frozen BK141.out 1
                go_wp2
                refine bodyPost_ret (results_cell_row rfl _ _ gb141 31 #[.int .i64 0, .int .i64 0] (0, 0) _ rfl (by (with_reducible repeat (first | refine blk_drewN ?_ _ | refine blk_drew ?_ | refine blk_alloc ?_ _)); refine blk_put (cs := #[.int .i64 0, .int .i64 0]) ?_ 1 _ rfl; (with_reducible repeat (first | refine blk_drewN ?_ _ | refine blk_drew ?_ | refine blk_alloc ?_ _)); refine blk_put (cs := #[.int .i64 0, .int .i64 0]) ?_ 0 _ rfl; (with_reducible repeat (first | refine blk_drewN ?_ _ | refine blk_drew ?_ | refine blk_alloc ?_ _)); refine blk_far ?_ NB141_139.out _; (with_reducible repeat (first | refine blk_drewN ?_ _ | refine blk_drew ?_ | refine blk_alloc ?_ _)); exact BK141.out) Try.underlying31 rfl (by kernel_rfl)) rfl ?_
                exact ⟨by first | rfl | exact ne_empty _ | exact eq_empty _ | (simp [errW_none, errW_some] <;> rfl) | (simp [*, errW_none, errW_some] <;> rfl), by repeat (first | (with_reducible first | exact HB.out | apply below_alloc | apply pw_below_drewN | apply below_drew1 | refine below_set ?_ GE139.out | refine below_set ?_ GE140.out | refine below_set ?_ GE141.out) | exact HB.out)⟩
              · rw [if_neg c38] at H
                have c38b0 : decide (a1_1 ≤ x140000_24) = false := decide_eq_false c38
                clear c38
                simp only [Option.some.injEq, Prod.mk.injEq] at H
                obtain ⟨rfl, rfl⟩ := H
                have hnb45 := NB140_139.out
                have hnc45 := NB139_140.out
                have hnb46 := NB140_141.out
                have hnc46 := NB141_140.out
                have hcz47_0 : wc.cell? ⟨gb140, 0, none⟩ = some (.int .i64 a1_0) := (blk_cell BK140.out 0).trans rfl
                have hcz47_1 : wc.cell? ⟨gb140, 1, none⟩ = some (.int .i64 a1_1) := (blk_cell BK140.out 1).trans rfl
                have hfz47_0 := blk_frozen BK140.out 0
                have hfz47_1 := blk_frozen BK140.out 1
                have hnb48 := NB139_141.out
                have hnc48 := NB141_139.out
                have hcz49_0 : wc.cell? ⟨gb139, 0, none⟩ = some (.int .i64 x140000_24) := (blk_cell BK139.out 0).trans rfl
                have hcz49_1 : wc.cell? ⟨gb139, 1, none⟩ = some (.int .i64 a0_1) := (blk_cell BK139.out 1).trans rfl
                have hfz49_0 := blk_frozen BK139.out 0
                have hfz49_1 := blk_frozen BK139.out 1
                have hcz50_0 : wc.cell? ⟨gb141, 0, none⟩ = some (.int .i64 0) := (blk_cell BK141.out 0).trans rfl
                have hcz50_1 : wc.cell? ⟨gb141, 1, none⟩ = some (.int .i64 0) := (blk_cell BK141.out 1).trans rfl
                have hfz50_0 := blk_frozen BK141.out 0
                have hfz50_1 := blk_frozen BK141.out 1
                go_wp2
                refine bodyPost_ret (results_cell_row rfl _ _ gb141 31 #[.int .i64 x140000_24, .int .i64 a1_1] (0, 0) _ rfl (by (with_reducible repeat (first | refine blk_drewN ?_ _ | refine blk_drew ?_ | refine blk_alloc ?_ _)); refine blk_put (cs := #[.int .i64 x140000_24, .int .i64 0]) ?_ 1 _ rfl; (with_reducible repeat (first | refine blk_drewN ?_ _ | refine blk_drew ?_ | refine blk_alloc ?_ _)); refine blk_put (cs := #[.int .i64 0, .int .i64 0]) ?_ 0 _ rfl; (with_reducible repeat (first | refine blk_drewN ?_ _ | refine blk_drew ?_ | refine blk_alloc ?_ _)); refine blk_far ?_ NB141_139.out _; (with_reducible repeat (first | refine blk_drewN ?_ _ | refine blk_drew ?_ | refine blk_alloc ?_ _)); exact BK141.out) Try.underlying31 rfl (by kernel_rfl)) rfl ?_
                exact ⟨by first | rfl | exact ne_empty _ | exact eq_empty _ | (simp [errW_none, errW_some] <;> rfl) | (simp [*, errW_none, errW_some] <;> rfl), by repeat (first | (with_reducible first | exact HB.out | apply below_alloc | apply pw_below_drewN | apply below_drew1 | refine below_set ?_ GE139.out | refine below_set ?_ GE140.out | refine below_set ?_ GE141.out) | exact HB.out)⟩
            · rw [if_neg c37] at H
              have c37b0 : decide (a1_1 < a0_1) = false := decide_eq_false c37
              clear c37
              by_cases c51 : x140000_24 ≥ a0_1
              · rw [if_pos c51] at H
                have c51b0 : decide (a0_1 ≤ x140000_24) = true := decide_eq_true c51
                clear c51
                simp only [Option.some.injEq, Prod.mk.injEq] at H
                obtain ⟨rfl, rfl⟩ := H
                have hnb52 := NB140_139.out
                have hnc52 := NB139_140.out
                have hnb53 := NB140_141.out
                have hnc53 := NB141_140.out
                have hcz54_0 : wc.cell? ⟨gb140, 0, none⟩ = some (.int .i64 a1_0) := (blk_cell BK140.out 0).trans rfl
                have hcz54_1 : wc.cell? ⟨gb140, 1, none⟩ = some (.int .i64 a1_1) := (blk_cell BK140.out 1).trans rfl
                have hfz54_0 := blk_frozen BK140.out 0
                have hfz54_1 := blk_frozen BK140.out 1
                have hnb55 := NB139_141.out
                have hnc55 := NB141_139.out
                have hcz56_0 : wc.cell? ⟨gb139, 0, none⟩ = some (.int .i64 x140000_24) := (blk_cell BK139.out 0).trans rfl
                have hcz56_1 : wc.cell? ⟨gb139, 1, none⟩ = some (.int .i64 a0_1) := (blk_cell BK139.out 1).trans rfl
                have hfz56_0 := blk_frozen BK139.out 0
                have hfz56_1 := blk_frozen BK139.out 1
                have hcz57_0 : wc.cell? ⟨gb141, 0, none⟩ = some (.int .i64 0) := (blk_cell BK141.out 0).trans rfl
                have hcz57_1 : wc.cell? ⟨gb141, 1, none⟩ = some (.int .i64 0) := (blk_cell BK141.out 1).trans rfl
                have hfz57_0 := blk_frozen BK141.out 0
                have hfz57_1 := blk_frozen BK141.out 1
                go_wp2
                refine bodyPost_ret (results_cell_row rfl _ _ gb141 31 #[.int .i64 0, .int .i64 0] (0, 0) _ rfl (by (with_reducible repeat (first | refine blk_drewN ?_ _ | refine blk_drew ?_ | refine blk_alloc ?_ _)); refine blk_put (cs := #[.int .i64 0, .int .i64 0]) ?_ 1 _ rfl; (with_reducible repeat (first | refine blk_drewN ?_ _ | refine blk_drew ?_ | refine blk_alloc ?_ _)); refine blk_put (cs := #[.int .i64 0, .int .i64 0]) ?_ 0 _ rfl; (with_reducible repeat (first | refine blk_drewN ?_ _ | refine blk_drew ?_ | refine blk_alloc ?_ _)); exact BK141.out) Try.underlying31 rfl (by kernel_rfl)) rfl ?_
                exact ⟨by first | rfl | exact ne_empty _ | exact eq_empty _ | (simp [errW_none, errW_some] <;> rfl) | (simp [*, errW_none, errW_some] <;> rfl), by repeat (first | (with_reducible first | exact HB.out | apply below_alloc | apply pw_below_drewN | apply below_drew1 | refine below_set ?_ GE139.out | refine below_set ?_ GE140.out | refine below_set ?_ GE141.out) | exact HB.out)⟩
              · rw [if_neg c51] at H
                have c51b0 : decide (a0_1 ≤ x140000_24) = false := decide_eq_false c51
                clear c51
                simp only [Option.some.injEq, Prod.mk.injEq] at H
                obtain ⟨rfl, rfl⟩ := H
                have hnb58 := NB140_139.out
                have hnc58 := NB139_140.out
                have hnb59 := NB140_141.out
                have hnc59 := NB141_140.out
                have hcz60_0 : wc.cell? ⟨gb140, 0, none⟩ = some (.int .i64 a1_0) := (blk_cell BK140.out 0).trans rfl
                have hcz60_1 : wc.cell? ⟨gb140, 1, none⟩ = some (.int .i64 a1_1) := (blk_cell BK140.out 1).trans rfl
                have hfz60_0 := blk_frozen BK140.out 0
                have hfz60_1 := blk_frozen BK140.out 1
                have hnb61 := NB139_141.out
                have hnc61 := NB141_139.out
                have hcz62_0 : wc.cell? ⟨gb139, 0, none⟩ = some (.int .i64 x140000_24) := (blk_cell BK139.out 0).trans rfl
                have hcz62_1 : wc.cell? ⟨gb139, 1, none⟩ = some (.int .i64 a0_1) := (blk_cell BK139.out 1).trans rfl
                have hfz62_0 := blk_frozen BK139.out 0
                have hfz62_1 := blk_frozen BK139.out 1
                have hcz63_0 : wc.cell? ⟨gb141, 0, none⟩ = some (.int .i64 0) := (blk_cell BK141.out 0).trans rfl
                have hcz63_1 : wc.cell? ⟨gb141, 1, none⟩ = some (.int .i64 0) := (blk_cell BK141.out 1).trans rfl
                have hfz63_0 := blk_frozen BK141.out 0
                have hfz63_1 := blk_frozen BK141.out 1
                go_wp2
                refine bodyPost_ret (results_cell_row rfl _ _ gb141 31 #[.int .i64 x140000_24, .int .i64 a0_1] (0, 0) _ rfl (by (with_reducible repeat (first | refine blk_drewN ?_ _ | refine blk_drew ?_ | refine blk_alloc ?_ _)); refine blk_put (cs := #[.int .i64 x140000_24, .int .i64 0]) ?_ 1 _ rfl; (with_reducible repeat (first | refine blk_drewN ?_ _ | refine blk_drew ?_ | refine blk_alloc ?_ _)); refine blk_put (cs := #[.int .i64 0, .int .i64 0]) ?_ 0 _ rfl; (with_reducible repeat (first | refine blk_drewN ?_ _ | refine blk_drew ?_ | refine blk_alloc ?_ _)); exact BK141.out) Try.underlying31 rfl (by kernel_rfl)) rfl ?_
                exact ⟨by first | rfl | exact ne_empty _ | exact eq_empty _ | (simp [errW_none, errW_some] <;> rfl) | (simp [*, errW_none, errW_some] <;> rfl), by repeat (first | (with_reducible first | exact HB.out | apply below_alloc | apply pw_below_drewN | apply below_drew1 | refine below_set ?_ GE139.out | refine below_set ?_ GE140.out | refine below_set ?_ GE141.out) | exact HB.out)⟩
end Go.Proofs.Ytiecjkkjcdjndaa.PAll
namespace Go.Proofs.Ytiecjkkjcdjndaa.PAll
open Go.RowKit Go.Proofs.Ytiecjkkjcdjndaa.Xw Go.Proofs.YtiecjkkjcdjndaaW.PrintWords Go.Proofs.YtiecjkkjcdjndaaW.PrintLast Go.Proofs.YtiecjkkjcdjndaaW.PrintMore
attribute [local go_sem] max2_int min2_int max_two min_two max_three min_three max_four min_four   -- for this text's walks alone
set_option linter.unusedVariables false
set_option linter.unusedSimpArgs false
mutual
def spenceref04_Cover.l0 : Nat → List (S31) → Int → Int → List Int → Int → Option (List Int)
  | 0, _, _, _, _, _ => none
  | k + 1, x0, x1, x2, x7, x8 => if x8 ≤ 4096 then ((spenceref04_Bounds.f k x8 x1 x2).bind fun bt144 => (if bt144.2 = 0 then (some x7) else (spenceref04_Cover.l1 k x0 x1 x2 x7 x8 false x0 (x0.length : Int) 0 bt144.1 bt144.2))) else (some x7)
def spenceref04_Cover.l1 : Nat → List (S31) → Int → Int → List Int → Int → Bool → List (S31) → Int → Int → Int → Int → Option (List Int)
  | 0, _, _, _, _, _, _, _, _, _, _, _ => none
  | k + 1, x0, x1, x2, x7, x8, x10, x24, x25, x26, x147000, x147001 => if x26 < x25 then (if 0 ≤ x26 then (if x26 < (x24.length : Int) then (if x10 = true then (spenceref04_Cover.l1 k x0 x1 x2 x7 x8 true x24 x25 (wrap64 (x26 + 1)) x147000 x147001) else ((spenceref04_Meet.f k ((rd_T31 x24 x26).f0) ((rd_T31 x24 x26).f1) x147000 x147001).bind fun bt149 => (spenceref04_Cover.l1 k x0 x1 x2 x7 x8 (decide (bt149.2 > 0)) x24 x25 (wrap64 (x26 + 1)) x147000 x147001))) else (none)) else (none)) else (if x10 = true then (if x7.length < 17592186044416 then (spenceref04_Cover.l0 k x0 x1 x2 (x7 ++ [x8]) (wrap64 (x8 + 1))) else (none)) else (spenceref04_Cover.l0 k x0 x1 x2 x7 (wrap64 (x8 + 1))))
end
def spenceref04_Cover.f (k : Nat) (l0 : List (S31)) (a1 : Int) (a2 : Int) : Option (List Int) := spenceref04_Cover.l0 k l0 a1 a2 ([] : List Int) 0
theorem spenceref04_Cover.mono_l : ∀ k, (∀ y0 y1 y2 y3 y4, LeO (spenceref04_Cover.l0 k y0 y1 y2 y3 y4) (spenceref04_Cover.l0 (k + 1) y0 y1 y2 y3 y4)) ∧ (∀ y0 y1 y2 y3 y4 y5 y6 y7 y8 y9 y10, LeO (spenceref04_Cover.l1 k y0 y1 y2 y3 y4 y5 y6 y7 y8 y9 y10) (spenceref04_Cover.l1 (k + 1) y0 y1 y2 y3 y4 y5 y6 y7 y8 y9 y10))
  | 0 => ⟨fun _ _ _ _ _ r h => by simp [spenceref04_Cover.l0] at h, fun _ _ _ _ _ _ _ _ _ _ _ r h => by simp [spenceref04_Cover.l1] at h⟩
  | k + 1 => by
    obtain ⟨ih0, ih1⟩ := spenceref04_Cover.mono_l k
    refine ⟨?_, ?_⟩
    · intro y0 y1 y2 y3 y4
      unfold spenceref04_Cover.l0
      repeat' first
      | (with_reducible exact ih0 _ _ _ _ _)
      | (with_reducible exact ih1 _ _ _ _ _ _ _ _ _ _ _)
      | (with_reducible exact spenceref04_Bounds.mono _ _ _ _)
      | (with_reducible exact spenceref04_Meet.mono _ _ _ _ _)
      | (with_reducible exact LeO.refl _)
      | (with_reducible exact LeO.none _)
      | (with_reducible refine LeO.ite ?_ ?_)
      | (with_reducible refine LeO.bind ?_ (fun _ => ?_))
      | exact ih0 _ _ _ _ _
      | exact ih1 _ _ _ _ _ _ _ _ _ _ _
      | exact spenceref04_Bounds.mono _ _ _ _
      | exact spenceref04_Meet.mono _ _ _ _ _
      | exact LeO.none _
      | refine LeO.ite ?_ ?_
      | refine LeO.bind ?_ (fun _ => ?_)
    · intro y0 y1 y2 y3 y4 y5 y6 y7 y8 y9 y10
      unfold spenceref04_Cover.l1
      repeat' first
      | (with_reducible exact ih0 _ _ _ _ _)
      | (with_reducible exact ih1 _ _ _ _ _ _ _ _ _ _ _)
      | (with_reducible exact spenceref04_Bounds.mono _ _ _ _)
      | (with_reducible exact spenceref04_Meet.mono _ _ _ _ _)
      | (with_reducible exact LeO.refl _)
      | (with_reducible exact LeO.none _)
      | (with_reducible refine LeO.ite ?_ ?_)
      | (with_reducible refine LeO.bind ?_ (fun _ => ?_))
      | exact ih0 _ _ _ _ _
      | exact ih1 _ _ _ _ _ _ _ _ _ _ _
      | exact spenceref04_Bounds.mono _ _ _ _
      | exact spenceref04_Meet.mono _ _ _ _ _
      | exact LeO.none _
      | refine LeO.ite ?_ ?_
      | refine LeO.bind ?_ (fun _ => ?_)
theorem spenceref04_Cover.mono : ∀ a0 a1 a2 k, LeO (spenceref04_Cover.f k a0 a1 a2) (spenceref04_Cover.f (k + 1) a0 a1 a2) := by
  intro a0 a1 a2 k
  obtain ⟨ih0, ih1⟩ := spenceref04_Cover.mono_l k
  unfold spenceref04_Cover.f
  repeat' first
      | (with_reducible exact ih0 _ _ _ _ _)
      | (with_reducible exact ih1 _ _ _ _ _ _ _ _ _ _ _)
      | (with_reducible exact spenceref04_Bounds.mono _ _ _ _)
      | (with_reducible exact spenceref04_Meet.mono _ _ _ _ _)
      | (with_reducible exact LeO.refl _)
      | (with_reducible exact LeO.none _)
      | (with_reducible refine LeO.ite ?_ ?_)
      | (with_reducible refine LeO.bind ?_ (fun _ => ?_))
      | exact ih0 _ _ _ _ _
      | exact ih1 _ _ _ _ _ _ _ _ _ _ _
      | exact spenceref04_Bounds.mono _ _ _ _
      | exact spenceref04_Meet.mono _ _ _ _ _
      | exact LeO.none _
      | refine LeO.ite ?_ ?_
      | refine LeO.bind ?_ (fun _ => ?_)
set_option maxHeartbeats 8000000 in
set_option maxRecDepth 100000 in
theorem spenceref04_Cover.calls (k : Nat) (A0 : Option Addr) (c0 : Nat) (l0 : List (S31)) (a1 : Int) (a2 : Int) (r : List Int) (w : World) (hr0 : Kd.C k31 w A0 l0.length l0) (hc0 : l0.length ≤ c0) (h : spenceref04_Cover.f k l0 a1 a2 = some r) :
    Calls Try.prog 13 #[.slice A0 l0.length c0, .int .i64 a1, .int .i64 a2] w fun e w' => ∃ v0_ : Value, e = .returned (v0_) ∧ Kd.R (Kd.int .i64) 3 w' w.heap.size (fun _ => True) v0_ r ∧ Below w.heap.size w w' := by
  have hu31 := Try.underlying31
  have HR0 := Aside0.mk hr0
  have HC0 := Aside0.mk hc0
  clear hr0 hc0
  have HB := Aside0.mk (Below.refl w.heap.size w)
  have H : (spenceref04_Cover.l0 k l0 a1 a2 ([] : List Int) 0) = some r := h
  clear h
  have H' := Aside0.mk H
  clear H
  go_enter Try.func13, Try.ntmps13
  go_wp2
  go_loopg [7, 8] k (fun kq v7 v8 w' => ∃ (x7_1 : List Int) (x8_1 : Int), v8 = .int .i64 x8_1 ∧ Aside0 (spenceref04_Cover.l0 kq l0 a1 a2 x7_1 x8_1 = some r) ∧ Aside0 (kq ≤ k) ∧ Aside0 (Kd.R (Kd.int .i64) 3 w' w.heap.size (fun _ => True) v7 x7_1) ∧ Aside0 (Below w.heap.size w w'))
  case atStart => exact ⟨(([] : List Int)), (0), (by first | rfl | (simp; done) | (simp [*]; done)), H', ⟨Nat.le_refl _⟩, ⟨by first | exact Kd.R_nil _ _ _ _ _ | exact Kd.N_nil _ _ _ _ _ | exact Kd.V_nil _ _ _ _ _ | exact Kd.Q_nil _ _ _ _ _ | exact Kd.S_nil _ _ _ _ _⟩, ⟨by repeat (first | (with_reducible first | exact HB.out | apply below_alloc | apply pw_below_drewN | apply below_drew1) | exact HB.out)⟩⟩
  case round =>
    clear H'
    try clear c1
    try clear p2
    obtain ⟨x7_1, x8_1, rfl, HA, HK1, HO_7, HB⟩ := hrel
    cases gk with
    | zero => exact absurd HA.out (by simp [spenceref04_Cover.l0])
    | succ k1 =>
      have H := HA.out
      clear HA
      simp only [spenceref04_Cover.l0] at H
      by_cases c4 : x8_1 ≤ 4096
      · rw [if_pos c4] at H
        have c4b0 : decide (x8_1 ≤ 4096) = true := decide_eq_true c4
        clear c4
        replace H := Option.bind_eq_some_iff.mp H
        obtain ⟨⟨t144, t145⟩, A50, H⟩ := H
        replace H : (if t145 = 0 then (some x7_1) else (spenceref04_Cover.l1 k1 l0 a1 a2 x7_1 x8_1 false l0 (l0.length : Int) 0 t144 t145)) = some r := H
        have A5 := Aside0.mk A50
        clear A50
        by_cases c6 : t145 = 0
        · rw [if_pos c6] at H
          have c6b0 : (t145 == 0) = true := beq_iff_eq.mpr c6
          have c6b1 : (t145 != 0) = false := bne_eq_false_iff_eq.mpr c6
          clear c6
          obtain rfl := Option.some.inj H
          go_wp2_with (first | ((with_reducible refine gate_callee (f := 9) rfl ?_); refine goesL_ (some 20) rfl rfl Try.func9 (by kernel_rfl) rfl #[.int .i64 x8_1, .int .i64 a1, .int .i64 a2] rfl (by (try simp only [List.map_toArray, List.map_cons, List.map_nil]); first | done | rfl | (simp only [List.length_drop, List.length_take]; rfl)) ?_; (with_reducible refine (spenceref04_Bounds.calls k1 x8_1 a1 a2 t144 t145 _ A5.out).mono ?_); rintro e w7 ⟨rfl, hb⟩; refine ⟨_, rfl, ?_⟩; have n0_ := Aside0.mk (Kd.R_below (by (with_reducible repeat (first | apply Kd.R_alloc | apply Kd.R_drewN | apply Kd.R_drew)); exact HO_7.out) hb); have n1_ := Aside0.mk (below_step (by repeat (first | (with_reducible first | exact HB.out | apply below_alloc | apply pw_below_drewN | apply below_drew1) | exact HB.out)) hb); clear HO_7; clear HB; have HO_7 := n0_; have HB := n1_; clear n0_ n1_; (try clear hb); (try clear hb2); (try clear hk); (try clear hi)) | ((with_reducible refine gate_dst (N := 9) rfl ?_); refine box_event ?hg (N := 9) ?hd (cs := #[.int .i64 0, .int .i64 0]) (t := 31) ?hr ?_; (case hd => rfl); (case hg => rfl); (case hr => first | (go_simp; done) | (go_simp; rfl)); intro gb146 hg w8 hbox hb; have n0_ := Aside0.mk (Kd.R_below (by (with_reducible repeat (first | apply Kd.R_alloc | apply Kd.R_drewN | apply Kd.R_drew)); exact HO_7.out) hb); have n1_ := Aside0.mk (below_step (by repeat (first | (with_reducible first | exact HB.out | apply below_alloc | apply pw_below_drewN | apply below_drew1) | exact HB.out)) hb); have n2_ := Aside0.mk (hbox); have n3_ := Aside0.mk ((by rw [hg]; exact (below_size (by repeat (first | (with_reducible first | exact HB.out | apply below_alloc | apply pw_below_drewN | apply below_drew1) | exact HB.out))) : w.heap.size ≤ gb146)); have n4_ := Aside0.mk ((by rw [hg]; exact (below_size (by repeat (first | (with_reducible first | exact HB.out | apply below_alloc | apply pw_below_drewN | apply below_drew1) | exact HB.out))) : w.heap.size ≤ gb146)); clear HO_7; clear HB; have HO_7 := n0_; have HB := n1_; have BK146 := n2_; have GW146 := n3_; have GE146 := n4_; clear n0_ n1_ n2_ n3_ n4_; clear hb hbox hg; have hcz9_0 : w8.cell? ⟨gb146, 0, none⟩ = some (.int .i64 0) := (blk_cell BK146.out 0).trans rfl; have hcz9_1 : w8.cell? ⟨gb146, 1, none⟩ = some (.int .i64 0) := (blk_cell BK146.out 1).trans rfl; have hfz9_0 := blk_frozen BK146.out 0; have hfz9_1 := blk_frozen BK146.out 1))
          go_ret
          exact ⟨_, by first | rfl | (simp [errW_none, errW_some] <;> rfl) | (simp [*, errW_none, errW_some] <;> rfl), by (with_reducible repeat (first | apply Kd.R_alloc | apply Kd.R_drewN | apply Kd.R_drew)); exact Kd.R_mono (Kd.R_far (p := ⟨gb146, 1, none⟩) (Kd.R_far (p := ⟨gb146, 0, none⟩) (Kd.R_types HO_7.out BK146.out (by decide)) (fun _ hk => hk.2) (.int .i64 t144)) (fun _ hk => hk.2) (.int .i64 t145)) (fun _ hk => trivial), by repeat (first | (with_reducible first | exact HB.out | apply below_alloc | apply pw_below_drewN | apply below_drew1 | refine below_set ?_ GE146.out) | exact HB.out)⟩
        · rw [if_neg c6] at H
          have c6b0 : (t145 == 0) = false := beq_eq_false_iff_ne.mpr c6
          have c6b1 : (t145 != 0) = true := bne_iff_ne.mpr c6
          have H' := Aside0.mk H
          clear H
          go_wp2_with (first | ((with_reducible refine gate_callee (f := 9) rfl ?_); refine goesL_ (some 20) rfl rfl Try.func9 (by kernel_rfl) rfl #[.int .i64 x8_1, .int .i64 a1, .int .i64 a2] rfl (by (try simp only [List.map_toArray, List.map_cons, List.map_nil]); first | done | rfl | (simp only [List.length_drop, List.length_take]; rfl)) ?_; (with_reducible refine (spenceref04_Bounds.calls k1 x8_1 a1 a2 t144 t145 _ A5.out).mono ?_); rintro e w10 ⟨rfl, hb⟩; refine ⟨_, rfl, ?_⟩; have n0_ := Aside0.mk (Kd.R_below (by (with_reducible repeat (first | apply Kd.R_alloc | apply Kd.R_drewN | apply Kd.R_drew)); exact HO_7.out) hb); have n1_ := Aside0.mk (below_step (by repeat (first | (with_reducible first | exact HB.out | apply below_alloc | apply pw_below_drewN | apply below_drew1) | exact HB.out)) hb); clear HO_7; clear HB; have HO_7 := n0_; have HB := n1_; clear n0_ n1_; (try clear hb); (try clear hb2); (try clear hk); (try clear hi)) | ((with_reducible refine gate_dst (N := 9) rfl ?_); refine box_event ?hg (N := 9) ?hd (cs := #[.int .i64 0, .int .i64 0]) (t := 31) ?hr ?_; (case hd => rfl); (case hg => rfl); (case hr => first | (go_simp; done) | (go_simp; rfl)); intro gb146 hg w11 hbox hb; have n0_ := Aside0.mk (Kd.R_below (by (with_reducible repeat (first | apply Kd.R_alloc | apply Kd.R_drewN | apply Kd.R_drew)); exact HO_7.out) hb); have n1_ := Aside0.mk (below_step (by repeat (first | (with_reducible first | exact HB.out | apply below_alloc | apply pw_below_drewN | apply below_drew1) | exact HB.out)) hb); have n2_ := Aside0.mk (hbox); have n3_ := Aside0.mk ((by rw [hg]; exact (below_size (by repeat (first | (with_reducible first | exact HB.out | apply below_alloc | apply pw_below_drewN | apply below_drew1) | exact HB.out))) : w.heap.size ≤ gb146)); have n4_ := Aside0.mk ((by rw [hg]; exact (below_size (by repeat (first | (with_reducible first | exact HB.out | apply below_alloc | apply pw_below_drewN | apply below_drew1) | exact HB.out))) : w.heap.size ≤ gb146)); clear HO_7; clear HB; have HO_7 := n0_; have HB := n1_; have BK146 := n2_; have GW146 := n3_; have GE146 := n4_; clear n0_ n1_ n2_ n3_ n4_; clear hb hbox hg; have hcz12_0 : w11.cell? ⟨gb146, 0, none⟩ = some (.int .i64 0) := (blk_cell BK146.out 0).trans rfl; have hcz12_1 : w11.cell? ⟨gb146, 1, none⟩ = some (.int .i64 0) := (blk_cell BK146.out 1).trans rfl; have hfz12_0 := blk_frozen BK146.out 0; have hfz12_1 := blk_frozen BK146.out 1))
          go_loopg [10, 26] k1 (fun kq v10 v26 w' => ∃ (x10_2 : Bool) (x26_2 : Int), v10 = .bool x10_2 ∧ v26 = .int .i64 x26_2 ∧ Aside0 (spenceref04_Cover.l1 kq l0 a1 a2 x7_1 x8_1 x10_2 l0 (l0.length : Int) x26_2 t144 t145 = some r) ∧ Aside0 (kq ≤ k1) ∧ Aside0 (Kd.R (Kd.int .i64) 3 w' w.heap.size (fun _ => True) u7 x7_1) ∧ Aside0 (w'.heap[gb146]? = some (.cells #[.int .i64 t144, .int .i64 t145] 31 (0, 0))) ∧ Aside0 (Below w.heap.size w w'))
          case atStart => exact ⟨(false), (0), (by first | rfl | (simp; done) | (simp [*]; done)), (by first | rfl | (simp; done) | (simp [*]; done)), H', ⟨Nat.le_refl _⟩, ⟨by (with_reducible repeat (first | apply Kd.R_alloc | apply Kd.R_drewN | apply Kd.R_drew)); exact Kd.R_mono (Kd.R_far (p := ⟨gb146, 1, none⟩) (Kd.R_far (p := ⟨gb146, 0, none⟩) (Kd.R_types HO_7.out BK146.out (by decide)) (fun _ hk => hk.2) (.int .i64 t144)) (fun _ hk => hk.2) (.int .i64 t145)) (fun _ hk => trivial)⟩, ⟨by (with_reducible repeat (first | refine blk_drewN ?_ _ | refine blk_drew ?_ | refine blk_alloc ?_ _)); refine blk_put (cs := #[.int .i64 t144, .int .i64 0]) ?_ 1 _ rfl; (with_reducible repeat (first | refine blk_drewN ?_ _ | refine blk_drew ?_ | refine blk_alloc ?_ _)); refine blk_put (cs := #[.int .i64 0, .int .i64 0]) ?_ 0 _ rfl; (with_reducible repeat (first | refine blk_drewN ?_ _ | refine blk_drew ?_ | refine blk_alloc ?_ _)); exact BK146.out⟩, ⟨by repeat (first | (with_reducible first | exact HB.out | apply below_alloc | apply pw_below_drewN | apply below_drew1 | refine below_set ?_ GE146.out) | exact HB.out)⟩⟩
          case round =>
            clear H'
            try clear c1
            try clear p2
            try clear c4
            try clear c4b0
            try clear c6
            try clear c6b0
            try clear c6b1
            try clear c9
            try clear hcz12_0
            try clear hcz12_1
            try clear hcz9_0
            try clear hcz9_1
            try clear hfz12_0
            try clear hfz12_1
            try clear hfz9_0
            try clear hfz9_1
            try clear p2
            obtain ⟨x10_2, x26_2, rfl, rfl, HA, HK2, HO_7, BK146, HB⟩ := hrel
            cases gk with
            | zero => exact absurd HA.out (by simp [spenceref04_Cover.l1])
            | succ k2 =>
              have H := HA.out
              clear HA
              simp only [spenceref04_Cover.l1] at H
              by_cases c13 : x26_2 < (l0.length : Int)
              · rw [if_pos c13] at H
                have c13b0 : decide (x26_2 < (l0.length : Int)) = true := decide_eq_true c13
                clear c13
                by_cases c14 : 0 ≤ x26_2
                · rw [if_pos c14] at H
                  have c14b0 : decide (0 ≤ x26_2) = true := decide_eq_true c14
                  clear c14
                  by_cases c15 : x26_2 < (l0.length : Int)
                  · rw [if_pos c15] at H
                    have c15b0 : decide (x26_2 < (l0.length : Int)) = true := decide_eq_true c15
                    clear c15
                    by_cases c16 : x10_2 = true
                    · subst c16
                      have H1 : (spenceref04_Cover.l1 k2 l0 a1 a2 x7_1 x8_1 true l0 (l0.length : Int) (wrap64 (x26_2 + 1)) t144 t145) = some r := by rw [if_pos rfl] at H; exact H
                      clear H
                      have H := H1
                      clear H1
                      have H' := Aside0.mk H
                      clear H
                      have p147 : 0 ≤ (x26_2 : Int) := of_decide_eq_true (by first | (with_reducible assumption) | assumption)
                      have q147 : x26_2 < (l0.length : Int) := of_decide_eq_true (by first | (with_reducible assumption) | assumption)
                      obtain ⟨ad147, e147, hx147_0, hx147_1⟩ := at_T31 HR0.out x26_2 p147 q147
                      cases e147
                      replace hx147_0 := (HB.out.cell (World.block_lt_of_cell? w _ hx147_0)).trans hx147_0
                      replace hx147_1 := (HB.out.cell (World.block_lt_of_cell? w _ hx147_1)).trans hx147_1
                      replace p147 := eq_true p147
                      replace q147 := eq_true q147
                      go_wp2_with (first | ((with_reducible refine gate_dst (N := 12) rfl ?_); refine box_event ?hg (N := 12) ?hd (cs := #[.int .i64 0, .int .i64 0]) (t := 31) ?hr ?_; (case hd => rfl); (case hg => rfl); (case hr => first | (go_simp; done) | (go_simp; rfl)); intro gb148 hg w17 hbox hb; have n0_ := Aside0.mk (Kd.R_below (by (with_reducible repeat (first | apply Kd.R_alloc | apply Kd.R_drewN | apply Kd.R_drew)); exact HO_7.out) hb); have n1_ := Aside0.mk (blk_below (g := gb146) (o := .cells #[.int .i64 t144, .int .i64 t145] 31 (0, 0)) (by (with_reducible repeat (first | refine blk_drewN ?_ _ | refine blk_drew ?_ | refine blk_alloc ?_ _)); exact BK146.out) hb); have n2_ := Aside0.mk (below_step (by repeat (first | (with_reducible first | exact HB.out | apply below_alloc | apply pw_below_drewN | apply below_drew1 | refine below_set ?_ GE146.out) | exact HB.out)) hb); have n3_ := Aside0.mk (hbox); have n4_ := Aside0.mk ((by rw [hg]; exact (below_size (by repeat (first | (with_reducible first | exact HB.out | apply below_alloc | apply pw_below_drewN | apply below_drew1 | refine below_set ?_ GE146.out) | exact HB.out))) : w.heap.size ≤ gb148)); have n5_ := Aside0.mk ((by rw [hg]; exact (below_size (by repeat (first | (with_reducible first | exact HB.out | apply below_alloc | apply pw_below_drewN | apply below_drew1 | refine below_set ?_ GE146.out) | exact HB.out))) : w.heap.size ≤ gb148)); have n6_ := Aside0.mk ((by rw [hg]; exact Nat.ne_of_lt (blk_lt (g := gb146) (o := .cells #[.int .i64 t144, .int .i64 t145] 31 (0, 0)) (by (with_reducible repeat (first | refine blk_drewN ?_ _ | refine blk_drew ?_ | refine blk_alloc ?_ _)); exact BK146.out)) : gb146 ≠ gb148)); have n7_ := Aside0.mk ((by rw [hg]; exact Nat.ne_of_gt (blk_lt (g := gb146) (o := .cells #[.int .i64 t144, .int .i64 t145] 31 (0, 0)) (by (with_reducible repeat (first | refine blk_drewN ?_ _ | refine blk_drew ?_ | refine blk_alloc ?_ _)); exact BK146.out)) : gb148 ≠ gb146)); clear HO_7; clear BK146; clear HB; have HO_7 := n0_; have BK146 := n1_; have HB := n2_; have BK148 := n3_; have GW148 := n4_; have GE148 := n5_; have NB146_148 := n6_; have NB148_146 := n7_; clear n0_ n1_ n2_ n3_ n4_ n5_ n6_ n7_; clear hb hbox hg; have hnb18 := NB148_146.out; have hnc18 := NB146_148.out; have hcz19_0 : w17.cell? ⟨gb148, 0, none⟩ = some (.int .i64 0) := (blk_cell BK148.out 0).trans rfl; have hcz19_1 : w17.cell? ⟨gb148, 1, none⟩ = some (.int .i64 0) := (blk_cell BK148.out 1).trans rfl; have hfz19_0 := blk_frozen BK148.out 0; have hfz19_1 := blk_frozen BK148.out 1))
                      go_roundg k2
                      case measure => have := HK1.out; have := HK2.out; omega
                      case rel => exact ⟨(true), (wrap64 (x26_2 + 1)), (by first | rfl | (simp; done) | (simp [*]; done)), (by first | rfl | (simp; done) | (simp [*]; done)), H', ⟨by have := HK1.out; have := HK2.out; omega⟩, ⟨by (with_reducible repeat (first | apply Kd.R_alloc | apply Kd.R_drewN | apply Kd.R_drew)); exact Kd.R_mono (Kd.R_far (p := ⟨gb148, 1, none⟩) (Kd.R_far (p := ⟨gb148, 0, none⟩) (Kd.R_types HO_7.out BK148.out (by decide)) (fun _ hk => hk.2) (.int .i64 ((rd_T31 l0 x26_2).f0))) (fun _ hk => hk.2) (.int .i64 ((rd_T31 l0 x26_2).f1))) (fun _ hk => trivial)⟩, ⟨by (with_reducible repeat (first | refine blk_drewN ?_ _ | refine blk_drew ?_ | refine blk_alloc ?_ _)); refine blk_far ?_ NB146_148.out _; (with_reducible repeat (first | refine blk_drewN ?_ _ | refine blk_drew ?_ | refine blk_alloc ?_ _)); refine blk_far ?_ NB146_148.out _; (with_reducible repeat (first | refine blk_drewN ?_ _ | refine blk_drew ?_ | refine blk_alloc ?_ _)); exact BK146.out⟩, ⟨by repeat (first | (with_reducible first | exact HB.out | apply below_alloc | apply pw_below_drewN | apply below_drew1 | refine below_set ?_ GE146.out | refine below_set ?_ GE148.out) | exact HB.out)⟩⟩
                    · replace c16 := Bool.eq_false_iff.mpr c16
                      subst c16
                      have H1 : ((spenceref04_Meet.f k2 ((rd_T31 l0 x26_2).f0) ((rd_T31 l0 x26_2).f1) t144 t145).bind fun bt149 => (spenceref04_Cover.l1 k2 l0 a1 a2 x7_1 x8_1 (decide (bt149.2 > 0)) l0 (l0.length : Int) (wrap64 (x26_2 + 1)) t144 t145)) = some r := by rw [if_neg (show ¬ (false = true) by decide)] at H; exact H
                      clear H
                      have H := H1
                      clear H1
                      replace H := Option.bind_eq_some_iff.mp H
                      obtain ⟨⟨t149, t150⟩, A200, H⟩ := H
                      replace H : (spenceref04_Cover.l1 k2 l0 a1 a2 x7_1 x8_1 (decide (t150 > 0)) l0 (l0.length : Int) (wrap64 (x26_2 + 1)) t144 t145) = some r := H
                      have A20 := Aside0.mk A200
                      clear A200
                      have H' := Aside0.mk H
                      clear H
                      have p147 : 0 ≤ (x26_2 : Int) := of_decide_eq_true (by first | (with_reducible assumption) | assumption)
                      have q147 : x26_2 < (l0.length : Int) := of_decide_eq_true (by first | (with_reducible assumption) | assumption)
                      obtain ⟨ad147, e147, hx147_0, hx147_1⟩ := at_T31 HR0.out x26_2 p147 q147
                      cases e147
                      replace hx147_0 := (HB.out.cell (World.block_lt_of_cell? w _ hx147_0)).trans hx147_0
                      replace hx147_1 := (HB.out.cell (World.block_lt_of_cell? w _ hx147_1)).trans hx147_1
                      replace p147 := eq_true p147
                      replace q147 := eq_true q147
                      go_wp2_with (first | ((with_reducible refine gate_dst (N := 12) rfl ?_); refine box_event ?hg (N := 12) ?hd (cs := #[.int .i64 0, .int .i64 0]) (t := 31) ?hr ?_; (case hd => rfl); (case hg => rfl); (case hr => first | (go_simp; done) | (go_simp; rfl)); intro gb148 hg w21 hbox hb; have n0_ := Aside0.mk (Kd.R_below (by (with_reducible repeat (first | apply Kd.R_alloc | apply Kd.R_drewN | apply Kd.R_drew)); exact HO_7.out) hb); have n1_ := Aside0.mk (blk_below (g := gb146) (o := .cells #[.int .i64 t144, .int .i64 t145] 31 (0, 0)) (by (with_reducible repeat (first | refine blk_drewN ?_ _ | refine blk_drew ?_ | refine blk_alloc ?_ _)); exact BK146.out) hb); have n2_ := Aside0.mk (below_step (by repeat (first | (with_reducible first | exact HB.out | apply below_alloc | apply pw_below_drewN | apply below_drew1 | refine below_set ?_ GE146.out) | exact HB.out)) hb); have n3_ := Aside0.mk (hbox); have n4_ := Aside0.mk ((by rw [hg]; exact (below_size (by repeat (first | (with_reducible first | exact HB.out | apply below_alloc | apply pw_below_drewN | apply below_drew1 | refine below_set ?_ GE146.out) | exact HB.out))) : w.heap.size ≤ gb148)); have n5_ := Aside0.mk ((by rw [hg]; exact (below_size (by repeat (first | (with_reducible first | exact HB.out | apply below_alloc | apply pw_below_drewN | apply below_drew1 | refine below_set ?_ GE146.out) | exact HB.out))) : w.heap.size ≤ gb148)); have n6_ := Aside0.mk ((by rw [hg]; exact Nat.ne_of_lt (blk_lt (g := gb146) (o := .cells #[.int .i64 t144, .int .i64 t145] 31 (0, 0)) (by (with_reducible repeat (first | refine blk_drewN ?_ _ | refine blk_drew ?_ | refine blk_alloc ?_ _)); exact BK146.out)) : gb146 ≠ gb148)); have n7_ := Aside0.mk ((by rw [hg]; exact Nat.ne_of_gt (blk_lt (g := gb146) (o := .cells #[.int .i64 t144, .int .i64 t145] 31 (0, 0)) (by (with_reducible repeat (first | refine blk_drewN ?_ _ | refine blk_drew ?_ | refine blk_alloc ?_ _)); exact BK146.out)) : gb148 ≠ gb146)); clear HO_7; clear BK146; clear HB; have HO_7 := n0_; have BK146 := n1_; have HB := n2_; have BK148 := n3_; have GW148 := n4_; have GE148 := n5_; have NB146_148 := n6_; have NB148_146 := n7_; clear n0_ n1_ n2_ n3_ n4_ n5_ n6_ n7_; clear hb hbox hg; have hnb22 := NB148_146.out; have hnc22 := NB146_148.out; have hcz23_0 : w21.cell? ⟨gb148, 0, none⟩ = some (.int .i64 0) := (blk_cell BK148.out 0).trans rfl; have hcz23_1 : w21.cell? ⟨gb148, 1, none⟩ = some (.int .i64 0) := (blk_cell BK148.out 1).trans rfl; have hfz23_0 := blk_frozen BK148.out 0; have hfz23_1 := blk_frozen BK148.out 1; have hcz24_0 : w21.cell? ⟨gb146, 0, none⟩ = some (.int .i64 t144) := (blk_cell BK146.out 0).trans rfl; have hcz24_1 : w21.cell? ⟨gb146, 1, none⟩ = some (.int .i64 t145) := (blk_cell BK146.out 1).trans rfl; have hfz24_0 := blk_frozen BK146.out 0; have hfz24_1 := blk_frozen BK146.out 1) | (go_at_call 23; (with_reducible refine (spenceref04_Meet.calls k2 ((rd_T31 l0 x26_2).f0) ((rd_T31 l0 x26_2).f1) t144 t145 t149 t150 _ A20.out).mono ?_); rintro e w25 ⟨rfl, hb⟩; have n0_ := Aside0.mk (Kd.R_below (by (with_reducible repeat (first | apply Kd.R_alloc | apply Kd.R_drewN | apply Kd.R_drew)); exact (Kd.R_mono (Kd.R_far (p := ⟨gb148, 1, none⟩) (Kd.R_far (p := ⟨gb148, 0, none⟩) (Kd.R_types HO_7.out BK148.out (by decide)) (fun _ hk => hk.2) (.int .i64 ((rd_T31 l0 x26_2).f0))) (fun _ hk => hk.2) (.int .i64 ((rd_T31 l0 x26_2).f1))) (fun _ h_ => h_.1))) hb); have n1_ := Aside0.mk (blk_below (g := gb146) (o := .cells #[.int .i64 t144, .int .i64 t145] 31 (0, 0)) (by (with_reducible repeat (first | refine blk_drewN ?_ _ | refine blk_drew ?_ | refine blk_alloc ?_ _)); refine blk_far ?_ NB146_148.out _; (with_reducible repeat (first | refine blk_drewN ?_ _ | refine blk_drew ?_ | refine blk_alloc ?_ _)); refine blk_far ?_ NB146_148.out _; (with_reducible repeat (first | refine blk_drewN ?_ _ | refine blk_drew ?_ | refine blk_alloc ?_ _)); exact BK146.out) hb); have n2_ := Aside0.mk (blk_below (g := gb148) (o := .cells #[.int .i64 ((rd_T31 l0 x26_2).f0), .int .i64 ((rd_T31 l0 x26_2).f1)] 31 (0, 0)) (by (with_reducible repeat (first | refine blk_drewN ?_ _ | refine blk_drew ?_ | refine blk_alloc ?_ _)); refine blk_put (cs := #[.int .i64 ((rd_T31 l0 x26_2).f0), .int .i64 0]) ?_ 1 _ rfl; (with_reducible repeat (first | refine blk_drewN ?_ _ | refine blk_drew ?_ | refine blk_alloc ?_ _)); refine blk_put (cs := #[.int .i64 0, .int .i64 0]) ?_ 0 _ rfl; (with_reducible repeat (first | refine blk_drewN ?_ _ | refine blk_drew ?_ | refine blk_alloc ?_ _)); exact BK148.out) hb); have n3_ := Aside0.mk (below_step (by repeat (first | (with_reducible first | exact HB.out | apply below_alloc | apply pw_below_drewN | apply below_drew1 | refine below_set ?_ GE146.out | refine below_set ?_ GE148.out) | exact HB.out)) hb); clear HO_7; clear BK146; clear BK148; clear HB; have HO_7 := n0_; have BK146 := n1_; have BK148 := n2_; have HB := n3_; clear n0_ n1_ n2_ n3_; (try clear hb); (try clear hb2); (try clear hk); (try clear hi)))
                      go_roundg k2
                      case measure => have := HK1.out; have := HK2.out; omega
                      case rel => exact ⟨(decide (t150 > 0)), (wrap64 (x26_2 + 1)), (by first | rfl | (simp; done) | (simp [*]; done)), (by first | rfl | (simp; done) | (simp [*]; done)), H', ⟨by have := HK1.out; have := HK2.out; omega⟩, ⟨by (with_reducible repeat (first | apply Kd.R_alloc | apply Kd.R_drewN | apply Kd.R_drew)); exact HO_7.out⟩, ⟨by (with_reducible repeat (first | refine blk_drewN ?_ _ | refine blk_drew ?_ | refine blk_alloc ?_ _)); exact BK146.out⟩, ⟨by repeat (first | (with_reducible first | exact HB.out | apply below_alloc | apply pw_below_drewN | apply below_drew1 | refine below_set ?_ GE146.out | refine below_set ?_ GE148.out) | exact HB.out)⟩⟩
                  · rw [if_neg c15] at H
                    exact absurd H (by simp)
                · rw [if_neg c14] at H
                  exact absurd H (by simp)
              · rw [if_neg c13] at H
                have c13b0 : decide (x26_2 < (l0.length : Int)) = false := decide_eq_false c13
                clear c13
                by_cases c26 : x10_2 = true
                · subst c26
                  have H1 : (if x7_1.length < 17592186044416 then (spenceref04_Cover.l0 k2 l0 a1 a2 (x7_1 ++ [x8_1]) (wrap64 (x8_1 + 1))) else (none)) = some r := by rw [if_pos rfl] at H; exact H
                  clear H
                  have H := H1
                  clear H1
                  by_cases c27 : x7_1.length < 17592186044416
                  · rw [if_pos c27] at H
                    have LMc27 := Aside0.mk c27
                    clear c27
                    obtain ⟨y151, hy151⟩ : ∃ y_ : List Int, y_ = (x7_1 ++ [x8_1]) := ⟨_, rfl⟩
                    replace H : (spenceref04_Cover.l0 k2 l0 a1 a2 y151 (wrap64 (x8_1 + 1))) = some r := by first | (rw [hy151]; with_reducible exact H) | (have H2_ := (Option.bind_some _ _).symm.trans H; rw [hy151]; with_reducible exact H2_) | (have H2_ := (Option.bind_some _ _).symm.trans H; with_reducible exact H2_) | with_reducible exact H | (rw [hy151]; exact H) | exact H
                    have Ny151 := Aside0.mk hy151
                    clear hy151
                    have H' := Aside0.mk H
                    clear H
                    go_wp2_with (first | ((with_reducible refine gate_builtin (b := .append) (xs := #[.tmp 40, .tmp 42]) rfl ?_); at_builtin; refine Kd.R_append (Kd.int .i64) (w0 := w) w.heap.size rfl (.tmp 40) (.tmp 42) 29 3 (.int .i64 0) 8 rfl Try.underlying29 info3 rfl (by decide) (by omega) u7 x7_1 x8_1 [.int .i64 x8_1] (fun _ => True) (fun _ => False) rfl rfl ?aP (fun _ hk => hk.elim) ?aF ?aO ?aB ?aS ?aL ?_; (case aP => exact rfl); (case aB => exact (by repeat (first | (with_reducible first | exact HB.out | apply below_alloc | apply pw_below_drewN | apply below_drew1 | refine below_set ?_ GE146.out) | exact HB.out))); (case aF => exact (fun _ _ => trivial)); (case aO => exact (by (with_reducible repeat (first | apply Kd.R_alloc | apply Kd.R_drewN | apply Kd.R_drew)); exact HO_7.out)); (case aS => exact (below_size (by repeat (first | (with_reducible first | exact HB.out | apply below_alloc | apply pw_below_drewN | apply below_drew1 | refine below_set ?_ GE146.out) | exact HB.out)))); (case aL => have := LMc27.out; omega); intro v152 w28 ho hb hg hat; rw [← Ny151.out] at ho; have n0_ := Aside0.mk (blk_grown (g := gb146) (o := .cells #[.int .i64 t144, .int .i64 t145] 31 (0, 0)) (by (with_reducible repeat (first | refine blk_drewN ?_ _ | refine blk_drew ?_ | refine blk_alloc ?_ _)); exact BK146.out) hg (Kd.R_ne HO_7.out BK146.out (by decide))); have n1_ := Aside0.mk (hb); have n2_ := Aside0.mk (ho); clear BK146; clear HB; clear HO_7; have BK146 := n0_; have HB := n1_; have HO153 := n2_; clear n0_ n1_ n2_; clear ho hb hg hat))
                    go_roundg k2
                    case measure => have := HK1.out; have := HK2.out; omega
                    case rel => exact ⟨(y151), (wrap64 (x8_1 + 1)), (by first | rfl | (simp; done) | (simp [*]; done)), H', ⟨by have := HK1.out; have := HK2.out; omega⟩, ⟨by (with_reducible repeat (first | apply Kd.R_alloc | apply Kd.R_drewN | apply Kd.R_drew)); exact HO153.out⟩, ⟨by repeat (first | (with_reducible first | exact HB.out | apply below_alloc | apply pw_below_drewN | apply below_drew1 | refine below_set ?_ GE146.out) | exact HB.out)⟩⟩
                  · rw [if_neg c27] at H
                    exact absurd H (by simp)
                · replace c26 := Bool.eq_false_iff.mpr c26
                  subst c26
                  have H1 : (spenceref04_Cover.l0 k2 l0 a1 a2 x7_1 (wrap64 (x8_1 + 1))) = some r := by rw [if_neg (show ¬ (false = true) by decide)] at H; exact H
                  clear H
                  have H := H1
                  clear H1
                  have H' := Aside0.mk H
                  clear H
                  go_wp2
                  go_roundg k2
                  case measure => have := HK1.out; have := HK2.out; omega
                  case rel => exact ⟨(x7_1), (wrap64 (x8_1 + 1)), (by first | rfl | (simp; done) | (simp [*]; done)), H', ⟨by have := HK1.out; have := HK2.out; omega⟩, ⟨by (with_reducible repeat (first | apply Kd.R_alloc | apply Kd.R_drewN | apply Kd.R_drew)); exact HO_7.out⟩, ⟨by repeat (first | (with_reducible first | exact HB.out | apply below_alloc | apply pw_below_drewN | apply below_drew1 | refine below_set ?_ GE146.out) | exact HB.out)⟩⟩
      · rw [if_neg c4] at H
        have c4b0 : decide (x8_1 ≤ 4096) = false := decide_eq_false c4
        clear c4
        obtain rfl := Option.some.inj H
        go_wp2
        go_ret
        exact ⟨_, by first | rfl | (simp [errW_none, errW_some] <;> rfl) | (simp [*, errW_none, errW_some] <;> rfl), by (with_reducible repeat (first | apply Kd.R_alloc | apply Kd.R_drewN | apply Kd.R_drew)); exact HO_7.out, by repeat (first | (with_reducible first | exact HB.out | apply below_alloc | apply pw_below_drewN | apply below_drew1) | exact HB.out)⟩
end Go.Proofs.Ytiecjkkjcdjndaa.PAll
namespace Go.Proofs.Ytiecjkkjcdjndaa.Pure
open Go.RowKit Go.Proofs.Ytiecjkkjcdjndaa.PAll Go.Proofs.YtiecjkkjcdjndaaW.PrintWords Go.Proofs.YtiecjkkjcdjndaaW.PrintLast Go.Proofs.YtiecjkkjcdjndaaW.PrintMore
theorem ref_meet_eq (k : Nat) (a0 a1 b0 b1 : Int) : spenceref04_Meet.f (k + 2) a0 a1 b0 b1 = some (meet a0 a1 b0 b1) := by
  unfold spenceref04_Meet.f meet
  simp only [ref_right_eq, Option.bind_some]
  by_cases h0 : SR a0 a1
  · by_cases h1 : SR b0 b1
    · simp only [h0, h1, decide_true, if_true, Bool.not_true, spenceref04_Meet.j0]
      have e : hits a0 a1 b0 b1 ↔ mx a0 b0 < mn a1 b1 := ⟨fun h => h.2.2, fun h => ⟨h0, h1, h⟩⟩
      simp only [e]
      rw [if_neg (by decide)]
      by_cases h2 : b0 > a0
      · skip
        have hx : mx a0 b0 = b0 := by unfold mx; rw [if_pos (by omega)]
        rw [if_pos h2, hx]
        simp only [spenceref04_Meet.j1]
        by_cases h3 : b1 < a1
        · have hy : mn a1 b1 = b1 := by unfold mn; rw [if_pos h3]
          rw [if_pos h3, hy]
          by_cases h4 : b0 < b1
          · rw [if_neg (by omega), if_pos h4]
          · rw [if_pos (by omega), if_neg h4]
        · have hy : mn a1 b1 = a1 := by unfold mn; rw [if_neg h3]
          rw [if_neg h3, hy]
          by_cases h4 : b0 < a1
          · rw [if_neg (by omega), if_pos h4]
          · rw [if_pos (by omega), if_neg h4]
      · skip
        have hx : mx a0 b0 = a0 := by unfold mx; rw [if_neg (by omega)]
        rw [if_neg h2, hx]
        simp only [spenceref04_Meet.j1]
        by_cases h3 : b1 < a1
        · have hy : mn a1 b1 = b1 := by unfold mn; rw [if_pos h3]
          rw [if_pos h3, hy]
          by_cases h4 : a0 < b1
          · rw [if_neg (by omega), if_pos h4]
          · rw [if_pos (by omega), if_neg h4]
        · have hy : mn a1 b1 = a1 := by unfold mn; rw [if_neg h3]
          rw [if_neg h3, hy]
          by_cases h4 : a0 < a1
          · rw [if_neg (by omega), if_pos h4]
          · rw [if_pos (by omega), if_neg h4]
    · have hh : ¬ hits a0 a1 b0 b1 := fun h => h1 h.2.1
      simp [h0, h1, hh, spenceref04_Meet.j0]
  · have hh : ¬ hits a0 a1 b0 b1 := fun h => h0 h.1
    simp [h0, hh, spenceref04_Meet.j0]
theorem ref_in (l : List S31) (n s : Int) (acc : List Int) (i : Int) (r : List Int) (hl : l.length ≤ 9223372036854775807) (ha : acc.length < 17592186044416) (d : Nat) : ∀ (j : Int) (b : Bool), 0 ≤ j → j ≤ l.length → (l.length : Int) - j = d →
    Ev (fun k => spenceref04_Cover.l0 k l n s (if b || (l.drop j.toNat).any (hit n s i) then acc ++ [i] else acc) (wrap64 (i + 1))) r →
    Ev (fun k => spenceref04_Cover.l1 k l n s acc i b l (l.length : Int) j (bnd i n s).1 (bnd i n s).2) r := by
  induction d with
  | zero =>
    intro j b h0 h1 hd h
    obtain ⟨K, hK⟩ := h
    refine ⟨K + 1, fun k hk => ?_⟩
    obtain ⟨k, rfl⟩ : ∃ m, k = m + 1 := ⟨k - 1, by omega⟩
    have h := hK k (by omega)
    rw [List.drop_of_length_le (by omega)] at h
    simp only [spenceref04_Cover.l1]
    rw [if_neg (by omega), if_pos ha]
    cases b <;> simpa using h
  | succ d ih =>
    intro j b h0 h1 hd h
    have hj : j < l.length := by omega
    rw [drop_any l _ j h0 hj] at h
    cases b with
    | true =>
      obtain ⟨K, hK⟩ := ih (j + 1) true (by omega) (by omega) (by omega) (by simpa using h)
      refine ⟨K + 1, fun k hk => ?_⟩
      obtain ⟨k, rfl⟩ : ∃ m, k = m + 1 := ⟨k - 1, by omega⟩
      have h := hK k (by omega)
      simp only [spenceref04_Cover.l1]
      rw [if_pos hj, if_pos h0, if_pos hj, if_pos trivial, wrap_id (by omega)]
      exact h
    | false =>
      obtain ⟨K, hK⟩ := ih (j + 1) (hit n s i (rd_T31 l j)) (by omega) (by omega) (by omega) (by simpa using h)
      refine ⟨K + 3, fun k hk => ?_⟩
      obtain ⟨k, rfl⟩ : ∃ m, k = m + 2 + 1 := ⟨k - 3, by omega⟩
      have h := hK (k + 2) (by omega)
      simp only [spenceref04_Cover.l1, ref_meet_eq, Option.bind_some]
      rw [if_pos hj, if_pos h0, if_pos hj, if_neg (by decide), wrap_id (by omega)]
      have e : decide ((meet (rd_T31 l j).f0 (rd_T31 l j).f1 (bnd i n s).1 (bnd i n s).2).2 > 0) = hit n s i (rd_T31 l j) := by
        unfold hit
        exact decide_eq_decide.mpr (meet_pos _ _ _ _)
      rw [e]
      exact h
theorem ref_cover_loop (l : List S31) (n s : Int) (hl : l.length ≤ 9223372036854775807) (hb : 0 ≤ cnt n s ∧ cnt n s ≤ 4096) (d : Nat) : ∀ (i : Int) (acc : List Int), 0 ≤ i → i ≤ cnt n s → cnt n s - i = d → acc.length ≤ i →
    Ev (fun k => spenceref04_Cover.l0 k l n s acc i) (acc ++ cov l n s d i) := by
  induction d with
  | zero =>
    intro i acc h0 h1 hd ha
    refine ⟨2, fun k hk => ?_⟩
    obtain ⟨k, rfl⟩ : ∃ m, k = m + 1 + 1 := ⟨k - 2, by omega⟩
    have hz : (bnd i n s).2 = 0 := (bnd_pos i n s).2.2.2 (fun h => by
      have := (lt_cnt h.1).2 h.2.2; omega)
    simp only [spenceref04_Cover.l0, ref_bounds_eq, Option.bind_some]
    rw [if_pos (by omega), if_pos hz]
    simp [cov]
  | succ d ih =>
    intro i acc h0 h1 hd ha
    have hw : wrap64 (i + 1) = i + 1 := wrap_id (by omega)
    have h := ih (i + 1) (if l.any (hit n s i) then acc ++ [i] else acc) (by omega) (by omega) (by omega) (by split <;> (try simp) <;> omega)
    have he : (if l.any (hit n s i) then acc ++ [i] else acc) ++ cov l n s d (i + 1) = acc ++ cov l n s (d + 1) i := by
      simp only [cov]; split <;> simp
    rw [he] at h
    have := ref_in l n s acc i (acc ++ cov l n s (d + 1) i) hl (by omega) l.length 0 false (by omega) (by omega) (by omega) (by simpa only [Int.toNat_zero, List.drop_zero, hw, Bool.false_or] using h)
    obtain ⟨K, hK⟩ := this
    refine ⟨K + 2, fun k hk => ?_⟩
    obtain ⟨k, rfl⟩ : ∃ m, k = m + 1 + 1 := ⟨k - 2, by omega⟩
    have hr : CR n s := by
      by_cases hr : CR n s
      · exact hr
      · unfold cnt at hd; rw [if_neg hr] at hd; omega
    have hz : ¬ (bnd i n s).2 = 0 := by
      have := (bnd_pos i n s).1.2 ⟨hr, h0, (lt_cnt hr).1 (by omega)⟩
      omega
    simp only [spenceref04_Cover.l0, ref_bounds_eq, Option.bind_some]
    rw [if_pos (by omega), if_neg hz]
    exact hK (k + 1) (by omega)
theorem ref_cover_ev (l : List S31) (n s : Int) (hl : l.length ≤ 9223372036854775807) : Ev (fun k => spenceref04_Cover.f k l n s) (cov l n s (cnt n s).toNat 0) := by
  have hb := cnt_bd2 n s
  have := ref_cover_loop l n s hl hb (cnt n s).toNat 0 [] (by omega) (by omega) (by omega) (by simp)
  unfold spenceref04_Cover.f
  simpa using this
end Go.Proofs.Ytiecjkkjcdjndaa.Pure
namespace Go.Proofs.Ytiecjkkjcdjndaa.Asm
open Go Go.RowKit Go.Shelf Go.Proofs Go.Proofs.Ytiecjkkjcdjndaa.Xw Go.Proofs.Ytiecjkkjcdjndaa.PAll Go.Proofs.YtiecjkkjcdjndaaW.PrintWords Go.Proofs.YtiecjkkjcdjndaaW.PrintLast Go.Proofs.YtiecjkkjcdjndaaW.PrintMore Go.Proofs.Ytiecjkkjcdjndaa.Mp Go.Proofs.Ytiecjkkjcdjndaa.Pure
attribute [local go_sem] Oper.semAt_some
theorem cov_mem_iff (l : List S31) (n s : Int) : ∀ (d : Nat) (i x : Int), x ∈ cov l n s d i ↔ i ≤ x ∧ x < i + d ∧ l.any (hit n s x) = true
  | 0, i, x => by simp only [cov, List.not_mem_nil, false_iff]; omega
  | d + 1, i, x => by
    rw [cov, List.mem_append, cov_mem_iff l n s d (i + 1) x]
    by_cases h : l.any (hit n s i) = true
    · rw [if_pos h, List.mem_singleton]
      constructor
      · rintro (rfl | ⟨a, b, c⟩)
        · exact ⟨Int.le_refl _, by omega, h⟩
        · exact ⟨by omega, by omega, c⟩
      · rintro ⟨a, b, c⟩
        by_cases e : x = i
        · exact .inl e
        · exact .inr ⟨by omega, by omega, c⟩
    · rw [if_neg h]
      constructor
      · rintro (h' | ⟨a, b, c⟩)
        · cases h'
        · exact ⟨by omega, by omega, c⟩
      · rintro ⟨a, b, c⟩
        by_cases e : x = i
        · subst e; exact absurd c h
        · exact .inr ⟨by omega, by omega, c⟩
theorem cov_span {a c n s x : Int} (h0 : SR a c) (h1 : c ≤ n) (h2 : CR n s) : x ∈ cov [⟨a, c⟩] n s (cnt n s).toNat 0 ↔ (cof a c s).1 ≤ x ∧ x < (cof a c s).2 := by
  have hs : 1 ≤ s ∧ s ≤ 64 := ⟨h2.2.2.1, h2.2.2.2⟩
  have e : cof a c s = (a / s, (c - 1) / s + 1) := by unfold cof; rw [if_pos ⟨h0, hs⟩]
  have hb := cof_bd a c n s h0 h1 h2
  have hc := cnt_bd h2
  rw [cov_mem_iff]
  simp only [List.any_cons, List.any_nil, Bool.or_false, hit, decide_eq_true_eq]
  constructor
  · rintro ⟨p, q, ⟨_, ⟨r0, r1, _⟩, r2⟩⟩
    have hslot : CR n s ∧ 0 ≤ x ∧ x * s < n := ⟨h2, p, (lt_cnt h2).1 (by omega)⟩
    have hbn := bnd_in hslot
    rw [hbn.1, hbn.2] at r2
    have m1 := mx_eq a (x * s)
    have m2 := mn_eq c (mn (x * s + s) n)
    have m3 := mn_eq (x * s + s) n
    rw [e]
    simp only
    refine ⟨?_, ?_⟩
    · have : a / s < x + 1 := (Int.ediv_lt_iff_lt_mul (by omega)).2 (by rw [Int.add_mul, Int.one_mul]; omega)
      omega
    · have : x ≤ (c - 1) / s := (Int.le_ediv_iff_mul_le (by omega)).2 (by omega)
      omega
  · rintro ⟨p, q⟩
    have hh := of_hits h0 h1 h2 p q
    have hx : x * s < n := by
      have hp := hh.2.1
      by_cases hc : CR n s ∧ 0 ≤ x ∧ x * s < n
      · exact hc.2.2
      · rw [bnd_out hc] at hp
        have := hp.2.1
        simp at this
    exact ⟨by omega, by have := (lt_cnt h2).2 hx; omega, hh⟩
/-- whether all slices of a span are there -/
def readyB (a c n s : Int) (o : List Int) : Bool := decide (SR a c ∧ c ≤ n ∧ ∀ j ∈ o, ¬ ((cof a c s).1 ≤ j ∧ j < (cof a c s).2))
theorem ready_cov {a c n s : Int} {o : List Int} (h0 : SR a c) (h1 : c ≤ n) (h2 : CR n s) : readyB a c n s o = (cov [⟨a, c⟩] n s (cnt n s).toNat 0).all fun x => !decide (x ∈ o) := by
  unfold readyB
  rw [Bool.eq_iff_iff, decide_eq_true_iff, List.all_eq_true]
  constructor
  · rintro ⟨_, _, h⟩ x hx
    have := (cov_span h0 h1 h2).1 hx
    simp only [Bool.not_eq_true', decide_eq_false_iff_not]
    exact fun ho => h x ho this
  · intro h
    refine ⟨h0, h1, fun j hj hh => ?_⟩
    have := h j ((cov_span h0 h1 h2).2 hh)
    simp [hj] at this
theorem ready_enters (args : Array Value) (w : World) : (callFunc 11 args).run Try.prog w = .ok (.enter 11 args) w := enters_of Try.func11 (by kernel_rfl) rfl args w
theorem span_C (W : World) (x : S31) : k31.C (W.alloc (.cells #[.int .i64 x.f0, .int .i64 x.f1] 31)) (some ⟨W.heap.size, 0, none⟩) [x].length [x] := by
  refine ⟨rfl, by simp, fun _ => ⟨_, rfl, fun j p hp => ⟨_, rfl, k31_mk _ p, fun m u hu => ?_⟩⟩⟩
  have hc := cell_of_row (W.alloc (.cells #[.int .i64 x.f0, .int .i64 x.f1] 31)) W.heap.size (j * 2 + m) #[.int .i64 x.f0, .int .i64 x.f1] 31 (0, 0) (blk_new W _)
  rw [add_plain]
  cases j with
  | zero =>
    obtain rfl : x = p := by simpa using hp
    rw [show 0 * k31.sz + m = 0 * 2 + m from rfl, hc]
    match m, hu with
    | 0, hu => simpa using hu
    | 1, hu => simpa using hu
    | m + 2, hu => simp at hu
  | succ j => simp at hp
set_option maxRecDepth 100000 in
set_option maxHeartbeats 4000000 in
theorem ready_calls (a c n s : Int) (A2 : Option Addr) (c2 : Nat) (o : List Int) (hlen : o.length ≤ 100000) (h2 : CR n s) (bn bs bo : Nat) (w : World) (hn : w.heap[bn]? = some (.cells #[.int .i64 n] 3 (0, 0))) (hs : w.heap[bs]? = some (.cells #[.int .i64 s] 3 (0, 0)))
    (ho : w.heap[bo]? = some (.cells #[.slice A2 o.length c2] 29 (0, 0))) (hC2 : (Kd.int .i64).C w A2 o.length o) (hc2 : o.length ≤ c2) :
    Calls Try.prog 11 #[.agg #[.int .i64 a, .int .i64 c], .pointer (some ⟨bn, 0, none⟩), .pointer (some ⟨bs, 0, none⟩), .pointer (some ⟨bo, 0, none⟩)] w fun e w' => e = .returned (.bool (readyB a c n s o)) ∧ Below w.heap.size w w' := by
  have CS := fun X => spenceref04_Right.calls a c _ X (ref_right_eq a c)
  obtain ⟨kc, hkc⟩ := ref_cover_ev [⟨a, c⟩] n s (by simp)
  have CI := fun i X hX => spenceref01_In.calls (in_ev o i hlen).choose A2 c2 o i (decide (i ∈ o)) X hX hc2 ((in_ev o i hlen).choose_spec _ (Nat.le_refl _))
  have hBA := below_alloc (Below.refl w.heap.size w) (.cells #[.int .i64 a, .int .i64 c] 31 (0, 0))
  have hSn : ∀ X, Below w.heap.size w X → X.cell? ⟨bn, 0, none⟩ = some (.int .i64 n) := fun X h => (blk_cell (blk_below hn h) 0).trans rfl
  have hSs : ∀ X, Below w.heap.size w X → X.cell? ⟨bs, 0, none⟩ = some (.int .i64 s) := fun X h => (blk_cell (blk_below hs h) 0).trans rfl
  have hSo : ∀ X, Below w.heap.size w X → X.cell? ⟨bo, 0, none⟩ = some (.slice A2 o.length c2) := fun X h => (blk_cell (blk_below ho h) 0).trans rfl
  have hS4 : ∀ X, Below (w.alloc (.cells #[.int .i64 a, .int .i64 c] 31 (0, 0))).heap.size (w.alloc (.cells #[.int .i64 a, .int .i64 c] 31 (0, 0))) X → X.cell? ⟨w.heap.size, 0, none⟩ = some (.int .i64 a) ∧ X.cell? ⟨w.heap.size, 1, none⟩ = some (.int .i64 c) := fun X h => ⟨(blk_cell (blk_below (blk_new _ _) h) 0).trans rfl, (blk_cell (blk_below (blk_new _ _) h) 1).trans rfl⟩
  replace CS := Aside0.mk CS
  replace CI := Aside0.mk CI
  replace hBA := Aside0.mk hBA
  replace hC2 := Aside0.mk hC2
  replace hS4 := Aside0.mk hS4
  clear hn hs ho
  by_cases k0 : SR a c
  case neg =>
    rw [show readyB a c n s o = false from decide_eq_false (fun h => k0 h.1)]
    rw [decide_eq_false k0] at CS
    replace k0 := Aside0.mk k0
    go_enter Try.func11, Try.ntmps11
    go_wp2_with (go_at_call 12; (with_reducible refine (CS.out _).mono ?_); rintro e X1 ⟨rfl, hb1⟩)
    go_ret
    exact ⟨rfl, below_step hBA.out hb1⟩
  rw [decide_eq_true k0] at CS
  by_cases k1 : c ≤ n
  case neg =>
    have d1 : decide (c > n) = true := decide_eq_true (by omega)
    have d1' : decide (n < c) = true := decide_eq_true (by omega)
    rw [show readyB a c n s o = false from decide_eq_false (fun h => k1 h.2.1)]
    replace k0 := Aside0.mk k0
    replace k1 := Aside0.mk k1
    go_enter Try.func11, Try.ntmps11
    go_wp2_with (go_at_call 12; (with_reducible refine (CS.out _).mono ?_); rintro e X1 ⟨rfl, hb1⟩; have hX1 := below_step hBA.out hb1; obtain ⟨hq0, hq1⟩ := hS4.out X1 hb1)
    go_ret
    exact ⟨rfl, hX1⟩
  have d1 : decide (c > n) = false := decide_eq_false (by omega)
  have d1' : decide (n < c) = false := decide_eq_false (by omega)
  rw [ready_cov k0 k1 h2]
  replace hkc := hkc kc (Nat.le_refl _)
  generalize hr : cov [⟨a, c⟩] n s (cnt n s).toNat 0 = r at hkc
  have hwf : ∀ x ∈ r, (Lit.int .i64 x).wf = true := fun x hx => by
    rw [← hr] at hx
    have h3 := (cov_mem_iff _ _ _ _ _ _).1 hx
    have h4 := cnt_bd2 n s
    exact WalkArith.wf_i64 (by omega)
  have hrl : r.length ≤ 4096 := by
    rw [← hr]
    have h4 := cnt_bd2 n s
    have := cov_length [⟨a, c⟩] n s (cnt n s).toNat 0
    omega
  clear hr
  obtain ⟨q, hq⟩ : ∃ q, (r.all fun x => !decide (x ∈ o)) = q := ⟨_, rfl⟩
  rw [hq]
  replace hq := Aside0.mk hq
  replace k0 := Aside0.mk k0
  replace k1 := Aside0.mk k1
  replace h2 := Aside0.mk h2
  replace hkc := Aside0.mk hkc
  replace hwf := Aside0.mk hwf
  go_enter Try.func11, Try.ntmps11
  go_wp2_with (first | (go_at_call 12; (with_reducible refine (CS.out _).mono ?_); rintro e X1 ⟨rfl, hb1⟩; have hX1 := below_step hBA.out hb1; obtain ⟨hq0, hq1⟩ := hS4.out X1 hb1; have hX1' := below_alloc hX1 (.cells #[.int .i64 a, .int .i64 c] 31 (0, 0))) | (go_at_call 13; refine (spenceref04_Cover.calls kc (some ⟨X1.heap.size, 0, none⟩) 1 [⟨a, c⟩] n s r _ (span_C X1 ⟨a, c⟩) (Nat.le_refl _) hkc.out).mono ?_; rintro e X2 ⟨v, rfl, hR, hb2⟩; obtain ⟨A3, c3, rfl, hl3, hC3⟩ := Kd.R_reads hR; have hX2 := Aside0.mk (below_step hX1' hb2); replace hC3 := Aside0.mk hC3))
  clear hX1 hX1' hb1 hb2 hR hq0 hq1 hS4 CS hBA hkc
  go_loopg [23] r.length (fun gg v23 wr => ∃ j : Nat, v23 = .int .i64 j ∧ j ≤ r.length ∧ r.length - j ≤ gg ∧ Aside0 (∀ x ∈ r.take j, x ∉ o) ∧ Aside0 (Below w.heap.size w wr) ∧ Aside0 ((Kd.int .i64).C wr A3 r.length r))
  case atStart => exact ⟨0, rfl, Nat.zero_le _, by omega, ⟨by simp⟩, hX2, hC3⟩
  case round =>
    obtain ⟨j, rfl, hj, hgg, hno, hB, hCr⟩ := hrel
    by_cases hlt : j < r.length
    · have hltz : (j : Int) < (r.length : Int) := by omega
      obtain ⟨ad, eA, hx0⟩ := Kd.at_int hCr.out (j : Int) (by omega) (by omega)
      cases eA
      simp only [Int.toNat_natCast] at hx0
      have hrd : rd r (j : Int) = r[j] := by simp [rd, hlt]
      have hmem : r[j] ∈ r := List.getElem_mem hlt
      have htake : r.take (j + 1) = r.take j ++ [r[j]] := (List.take_succ_eq_append_getElem hlt)
      rw [hrd] at hx0
      have hwx := hwf.out _ hmem
      have CIx := CI.out (r[j])
      generalize r[j] = x at hx0 hmem htake hwx CIx
      have hBy := Aside0.mk hB.out
      have hX : Below w.heap.size w wr := hB.out
      by_cases hxo : x ∈ o
      · rw [decide_eq_true hxo] at CIx
        replace CIx := Aside0.mk CIx
        replace hwx := Aside0.mk hwx
        have hqq := hq.out
        rw [show (r.all fun x => !decide (x ∈ o)) = false from by
          rw [Bool.eq_false_iff]
          intro h
          have := List.all_eq_true.1 h x hmem
          simp [hxo] at this] at hqq
        replace hqq := Aside0.mk hqq
        replace hxo := Aside0.mk hxo
        replace hmem := Aside0.mk hmem
        go_wp2_with (go_at_call 14; (with_reducible refine (CIx.out _ (Kd.C_below hC2.out hBy.out)).mono ?_); rintro e X3 ⟨rfl, hb3⟩)
        go_ret
        exact ⟨by have hz := hqq.out; subst hz; first | rfl | simp, below_step hBy.out hb3.below⟩
      · rw [decide_eq_false hxo] at CIx
        replace CIx := Aside0.mk CIx
        replace hwx := Aside0.mk hwx
        replace hxo := Aside0.mk hxo
        replace hmem := Aside0.mk hmem
        replace htake := Aside0.mk htake
        go_wp2_with (go_at_call 14; (with_reducible refine (CIx.out _ (Kd.C_below hC2.out hBy.out)).mono ?_); rintro e X3 ⟨rfl, hb3⟩)
        go_roundg (r.length - (j + 1))
        case measure => omega
        case rel => exact ⟨j + 1, by go_num, by omega, by omega, ⟨fun y hy => by
          rw [htake.out, List.mem_append, List.mem_singleton] at hy
          rcases hy with hy | rfl
          · exact hno.out y hy
          · exact hxo.out⟩, ⟨below_step hBy.out hb3.below⟩, ⟨Kd.C_below hCr.out hb3.below⟩⟩
    · have hjr : j = r.length := by omega
      have hltz : ¬ (j : Int) < (r.length : Int) := by omega
      have hqq := hq.out
      rw [show (r.all fun x => !decide (x ∈ o)) = true from by
        rw [List.all_eq_true]
        intro y hy
        have := hno.out y (by rw [hjr, List.take_length]; exact hy)
        simp [this]] at hqq
      replace hqq := Aside0.mk hqq
      clear hjr
      go_wp2
      go_ret
      exact ⟨by have hz := hqq.out; subst hz; first | rfl | simp, hB.out⟩
end Go.Proofs.Ytiecjkkjcdjndaa.Asm
namespace Go.Proofs.Ytiecjkkjcdjndaa.Asm
open Go Go.RowKit Go.Shelf Go.Proofs Go.Proofs.Ytiecjkkjcdjndaa.Xw Go.Proofs.Ytiecjkkjcdjndaa.PAll Go.Proofs.YtiecjkkjcdjndaaW.PrintWords Go.Proofs.YtiecjkkjcdjndaaW.PrintLast Go.Proofs.YtiecjkkjcdjndaaW.PrintMore Go.Proofs.Ytiecjkkjcdjndaa.Mp Go.Proofs.Ytiecjkkjcdjndaa.Pure
attribute [local go_sem] Oper.semAt_some
abbrev SP := S31
theorem info44 : (Try.prog.info? 44).map (fun i => (i.zero, i.size, i.bytes)) = some (some (.agg #[.int .i64 0, .int .i64 0, .slice none 0 0]), 3, 40) := by kernel_rfl
/-- the cells of parts: their spans, and slices that own their bytes -/
def PCells (w : World) (base : Nat) : List (SP × List Int) → List Value → Prop
  | [], xs => xs = []
  | p :: ps, xs => ∃ u rest, xs = .int .i64 p.1.f0 :: .int .i64 p.1.f1 :: u :: rest ∧ w.ownsRow base 5 1 u p.2.length (nums .u8 p.2) ∧ PCells w base ps rest
theorem PCells.snoc {w : World} {base : Nat} {x : SP} {b : List Int} {u : Value} (hu : w.ownsRow base 5 1 u b.length (nums .u8 b)) : ∀ {ps : List (SP × List Int)} {xs : List Value}, PCells w base ps xs → PCells w base (ps ++ [(x, b)]) (xs ++ [.int .i64 x.f0, .int .i64 x.f1, u])
  | [], xs, h => by
    have h : xs = [] := h
    subst h
    exact ⟨u, [], rfl, hu, rfl⟩
  | p :: ps, xs, h => by
    obtain ⟨v, rest, rfl, hv, hr⟩ := h
    exact ⟨v, rest ++ _, rfl, hv, PCells.snoc hu hr⟩
theorem PCells.move {w w' : World} {base : Nat} (hk : ∀ (k : Nat) (cs : Array Value), w.heap[k]? = some (.cells cs 5 (0, 0)) → w'.heap[k]? = w.heap[k]?) : ∀ {ps : List (SP × List Int)} {xs : List Value}, PCells w base ps xs → PCells w' base ps xs
  | [], _, h => h
  | p :: ps, xs, h => by
    obtain ⟨v, rest, rfl, hv, hr⟩ := h
    refine ⟨v, rest, rfl, own_move hv (fun k e => ?_), PCells.move hk hr⟩
    obtain ⟨cs, hcs⟩ := own_typed hv k e
    exact hk k cs hcs
theorem PCells.below {w w' : World} {base : Nat} (hb : Below w.heap.size w w') {ps : List (SP × List Int)} {xs : List Value} (h : PCells w base ps xs) : PCells w' base ps xs := h.move fun k _ hk => hb.block k (blk_lt hk)
theorem PCells.at_ {w : World} {base : Nat} : ∀ {ps : List (SP × List Int)} {xs : List Value}, PCells w base ps xs → ∀ (j : Nat) (p : SP × List Int), ps[j]? = some p →
    ∃ u, xs[3 * j]? = some (.int .i64 p.1.f0) ∧ xs[3 * j + 1]? = some (.int .i64 p.1.f1) ∧ xs[3 * j + 2]? = some u ∧ w.ownsRow base 5 1 u p.2.length (nums .u8 p.2)
  | [], _, _, j, p, hj => by simp at hj
  | q :: ps, xs, h, j, p, hj => by
    obtain ⟨v, rest, rfl, hv, hr⟩ := h
    cases j with
    | zero =>
      obtain rfl : q = p := by simpa using hj
      exact ⟨v, rfl, rfl, rfl, hv⟩
    | succ j =>
      obtain ⟨u, h1, h2, h3, h4⟩ := PCells.at_ hr j p (by simpa using hj)
      refine ⟨u, ?_, ?_, ?_, h4⟩
      · rw [show 3 * (j + 1) = 3 * j + 1 + 1 + 1 by omega]; simpa using h1
      · rw [show 3 * (j + 1) + 1 = 3 * j + 1 + 1 + 1 + 1 by omega]; simpa using h2
      · rw [show 3 * (j + 1) + 2 = 3 * j + 2 + 1 + 1 + 1 by omega]; simpa using h3
def PRow (w : World) (base : Nat) (v : Value) (ps : List (SP × List Int)) : Prop := ∃ xs, w.ownsRow base 44 3 v ps.length xs ∧ PCells w base ps xs
theorem PRow.nil (w : World) (base : Nat) : PRow w base (.slice none 0 0) [] := ⟨[], own_nil _ _ _ _, rfl⟩
theorem PRow.below {w w' : World} {base : Nat} {v : Value} {ps : List (SP × List Int)} (h : PRow w base v ps) (hb : Below w.heap.size w w') : PRow w' base v ps := by
  obtain ⟨xs, h1, h2⟩ := h
  exact ⟨xs, pw_own_below h1 hb, h2.below hb⟩
/-- one part more -/
theorem PRow.append {W : World} {base : Nat} {v u : Value} {ps : List (SP × List Int)} {x : SP} {b : List Int} (h : PRow W base v ps) (hbase : base ≤ W.heap.size) (hlen : ps.length ≤ 1000000) (hu : W.ownsRow base 5 1 u b.length (nums .u8 b)) :
    ∃ v1 w1, (Builtin.append_ #[40, 40] 40 #[v, .slice (some ⟨W.heap.size, 0, none⟩) 1 1]).run Try.prog (W.alloc (.cells #[.int .i64 x.f0, .int .i64 x.f1, u] 44)) = .ok v1 w1 ∧ PRow w1 base v1 (ps ++ [(x, b)]) ∧ (∀ g, g < base → g < W.heap.size → w1.heap[g]? = W.heap[g]?) ∧ W.heap.size ≤ w1.heap.size ∧ w1.os = W.os ∧ w1.tape = W.tape ∧ w1.output = W.output := by
  obtain ⟨xs, h1, h2⟩ := h
  obtain ⟨Au, cu, rfl⟩ := own_slice hu
  obtain ⟨i0, hi, hzz⟩ := Option.map_eq_some_iff.1 info44
  simp only [Prod.mk.injEq] at hzz
  obtain ⟨hz0, hz1, hz2⟩ := hzz
  have hnew := blk_new W (.cells #[.int .i64 x.f0, .int .i64 x.f1, .slice Au b.length cu] 44)
  obtain ⟨v1, w1, hr, h3, h4, _, h5⟩ := run_append_own_at (P := Try.prog) (W.alloc (.cells #[.int .i64 x.f0, .int .i64 x.f1, .slice Au b.length cu] 44)) base 40 40 44 i0 (.agg #[.int .i64 0, .int .i64 0, .slice none 0 0]) 3 40 Try.underlying40 hi hz0 hz1 hz2 rfl (by omega) v ps.length xs (h1.alloc _)
    ⟨W.heap.size, 0, none⟩ 1 1 [.int .i64 x.f0, .int .i64 x.f1, .slice Au b.length cu] rfl (World.news_of_block (cs := #[.int .i64 x.f0, .int .i64 x.f1, .slice Au b.length cu]) (t := 44) (fr := (0, 0)) hnew)
    (by intro u hu; simp only [List.mem_cons, List.not_mem_nil, or_false] at hu; rcases hu with rfl | rfl | rfl <;> rfl) (by simp only [maxLen]; omega) (by omega) (by rw [alloc_size]; omega)
  have hne := fun k cs (hk : (W.alloc (.cells #[.int .i64 x.f0, .int .i64 x.f1, .slice Au b.length cu] 44)).heap[k]? = some (.cells cs 5 (0, 0))) => (fun e => by
    obtain ⟨cs', hcs⟩ := own_typed (h1.alloc (.cells #[.int .i64 x.f0, .int .i64 x.f1, .slice Au b.length cu] 44)) k e.symm
    rw [hk] at hcs
    injection hcs with hcs
    injection hcs with _ h6
    exact absurd h6 (by decide) : ¬ some k = v.ownBlock)
  have hc2 : PCells w1 base (ps ++ [(x, b)]) (xs ++ [.int .i64 x.f0, .int .i64 x.f1, .slice Au b.length cu]) := by
    have hA := PCells.below (below_alloc (Below.refl _ W) (.cells #[.int .i64 x.f0, .int .i64 x.f1, .slice Au b.length cu] 44)) h2
    have hB := PCells.snoc (x := x) (b := b) (own_alloc hu (.cells #[.int .i64 x.f0, .int .i64 x.f1, .slice Au b.length cu] 44)) hA
    exact hB.move fun k cs hk => h4.block k (blk_lt hk) (hne k cs hk)
  refine ⟨v1, w1, hr, ⟨_, by simpa using h3, hc2⟩, fun g hg hlt => ?_, ?_, h4.os, h4.tape, h4.output⟩
  · have e1 := h4.block g (by rw [alloc_size]; omega) (fun e => by
      have := own_base h1 g e.symm
      omega)
    rw [e1]
    exact (below_alloc (Below.refl _ W) _).block g hlt
  · have := h4.size
    rw [alloc_size] at this
    omega
/-- the law at the operation, where the run is known up to what it leaves -/
theorem wpList_append_ex {P : Program} {ops : Array Oper} {rest : List Oper} {o : Oper} {a : Act} {Q : Exit → Act → World → Prop} {W : World} {R : Value → World → Prop} (hg : o.guard = none) (s x : Operand) (t u : TypeId) (ho : o.op = .call { callee := .builtin .append, args := #[s, x], argTypes := #[t, u] })
    {v y : Value} (hs : a.eval s = v) (hx : a.eval x = y) (hrun : ∃ v1 w1, (Builtin.append_ #[t, u] o.type #[v, y]).run P W = .ok v1 w1 ∧ R v1 w1) (hK : ∀ v1 w1, R v1 w1 → wpList P ops Q rest (a.put o.dst v1) w1) : wpList P ops Q (o :: rest) a W := by
  obtain ⟨v1, w1, hr, hR⟩ := hrun
  refine wpList_plain hg fun K hK' => ?_
  unfold Oper.wp execOp
  simp only [ho, resolve, invoke, builtin, Sem.run_bind, Sem.run_pure, Result.andThen_ok, List.map_toArray, List.map_cons, List.map_nil, hs, hx, hr]
  exact hK' _ _ (hK v1 w1 hR)
/-- All the bodies, or none. -/
def partsP (F : Int → Option (List Int)) (n s : Int) : List SP → List (SP × List Int) → Option (List (SP × List Int))
  | [], acc => some acc
  | x :: l, acc => match bodyP F x.f0 x.f1 n s with
    | none => none
    | some b => partsP F n s l (acc ++ [(x, b)])
set_option maxRecDepth 100000 in
set_option maxHeartbeats 4000000 in
theorem parts_calls (b cnt : Nat) (F : Int → Option (List Int)) (A : Option Addr) (c : Nat) (l : List SP) (n s : Int) (w : World) (hm : MB w b cnt F) (hC : k31.C w A l.length l) (hlen : l.length ≤ 1000) :
    Calls Try.prog 16 #[.map (some b), .slice A l.length c, .int .i64 n, .int .i64 s] w fun e w' => ∃ v, e = .returned (.tuple #[v, .bool (partsP F n s l []).isSome]) ∧ PRow w' w.heap.size v ((partsP F n s l []).getD []) ∧ Below w.heap.size w w' := by
  have CB := Aside0.mk (fun a c X hX => body_calls b cnt F a c n s X (hm.below hX))
  replace hC := Aside0.mk hC
  clear hm
  obtain ⟨res, hres⟩ : ∃ res, partsP F n s l [] = res := ⟨_, rfl⟩
  rw [hres]
  obtain ⟨m, hml⟩ : ∃ m, l.length = m := ⟨_, rfl⟩
  rw [hml] at hlen ⊢
  replace hml := Aside0.mk hml
  replace hres := Aside0.mk hres
  go_enter Try.func16, Try.ntmps16
  go_wp2
  go_loopg [10, 17] m (fun gg v10 v17 wr => ∃ (j : Nat) (acc : List (SP × List Int)), v17 = .int .i64 j ∧ j ≤ m ∧ m - j ≤ gg ∧ acc.length = j ∧ Aside0 (partsP F n s (l.drop j) acc = res) ∧ Aside0 (PRow wr w.heap.size v10 acc) ∧ Aside0 (Below w.heap.size w wr))
  case atStart => exact ⟨0, [], rfl, Nat.zero_le _, by omega, rfl, ⟨by rw [List.drop_zero]; exact hres.out⟩, ⟨PRow.nil _ _⟩, ⟨Below.refl _ _⟩⟩
  case round =>
    obtain ⟨j, acc, rfl, hj, hgg, hacc, hrun, hP, hB⟩ := hrel
    by_cases hlt : j < m
    · have hltz : (j : Int) < (m : Int) := by omega
      have hjl : j < l.length := by have := hml.out; omega
      obtain ⟨ad, eA, hx0, hx1⟩ := at_T31 hC.out (j : Int) (by omega) (by omega)
      cases eA
      replace hx0 := (hB.out.cell (World.block_lt_of_cell? w _ hx0)).trans hx0
      replace hx1 := (hB.out.cell (World.block_lt_of_cell? w _ hx1)).trans hx1
      simp only [Int.toNat_natCast] at hx0 hx1
      have hdrop : l.drop j = rd_T31 l (j : Int) :: l.drop (j + 1) := by
        rw [List.drop_eq_getElem_cons hjl]
        congr 1
        simp [rd_T31, hjl]
      have hr := hrun.out
      rw [hdrop] at hr
      generalize rd_T31 l (j : Int) = x at hx0 hx1 hr
      rw [partsP] at hr
      have CBx := CB.out x.f0 x.f1
      have hBw := below_alloc hB.out (.cells #[.int .i64 x.f0, .int .i64 x.f1] 31 (0, 0))
      replace hBw := Aside0.mk hBw
      cases hbody : bodyP F x.f0 x.f1 n s with
      | none =>
        rw [hbody] at CBx hr
        replace CBx := Aside0.mk CBx
        simp only at hr
        subst hr
        go_wp2_with (go_at_call 15; (with_reducible refine (CBx.out _ hBw.out).mono ?_); rintro e X1 ⟨v1, rfl, ho1, hb1⟩)
        refine bodyPost_ret (results_tmp2 rfl _ _ _) rfl ?_
        exact ⟨_, rfl, PRow.nil _ _, below_step hBw.out hb1⟩
      | some bb =>
        rw [hbody] at CBx hr
        simp only [Option.getD_some] at CBx
        replace CBx := Aside0.mk CBx
        replace hr : partsP F n s (List.drop (j + 1) l) (acc ++ [(x, bb)]) = res := hr
        replace hr := Aside0.mk hr
        clear hdrop
        go_wp2_with (first | (go_at_call 15; (with_reducible refine (CBx.out _ hBw.out).mono ?_); rintro e X1 ⟨v1, rfl, ho1, hb1⟩; obtain ⟨A1, c1, rfl⟩ := own_slice ho1; have hq0 : X1.cell? ⟨wr.heap.size, 0, none⟩ = some (.int .i64 x.f0) := (blk_cell (blk_below (blk_new wr (.cells #[.int .i64 x.f0, .int .i64 x.f1] 31 (0, 0))) hb1) 0).trans rfl; have hq1 : X1.cell? ⟨wr.heap.size, 1, none⟩ = some (.int .i64 x.f1) := (blk_cell (blk_below (blk_new wr (.cells #[.int .i64 x.f0, .int .i64 x.f1] 31 (0, 0))) hb1) 1).trans rfl; have hB1 := Aside0.mk (below_step hBw.out hb1); have hP1 := Aside0.mk ((hP.out.below (below_alloc (Below.refl _ wr) (.cells #[.int .i64 x.f0, .int .i64 x.f1] 31 (0, 0)))).below hb1); have ho2 := Aside0.mk (own_less ho1 hBw.out.size)) | (at_builtin; refine wpList_append_ex rfl _ _ 40 40 rfl rfl rfl (PRow.append (x := x) (b := bb) hP1.out hB1.out.size (by omega) ho2.out) ?_; rintro v2 X2 ⟨hP2, hk2, hsz2, hos2, htp2, hout2⟩))
        go_roundg (m - (j + 1))
        case measure => omega
        case rel => exact ⟨j + 1, acc ++ [(x, bb)], by go_num, by omega, by omega, by rw [List.length_append, hacc]; rfl, hr, ⟨hP2⟩, ⟨⟨hos2.trans hB1.out.os, htp2.trans hB1.out.tape, hout2.trans hB1.out.output, Nat.le_trans hB1.out.size hsz2, fun g hg => (hk2 g hg (Nat.lt_of_lt_of_le hg hB1.out.size)).trans (hB1.out.block g hg)⟩⟩⟩
    · have : j = m := by omega
      subst this
      have hltz : ¬ (j : Int) < (j : Int) := by omega
      have hr := hrun.out
      rw [List.drop_of_length_le (by have := hml.out; omega), partsP] at hr
      subst hr
      go_wp2
      refine bodyPost_ret (results_tmp2 rfl _ _ _) rfl ?_
      exact ⟨_, rfl, hP.out, hB.out⟩
end Go.Proofs.Ytiecjkkjcdjndaa.Asm
namespace Go.Proofs.Ytiecjkkjcdjndaa.Asm
open Go Go.RowKit Go.Shelf Go.Proofs Go.Proofs.Ytiecjkkjcdjndaa.Xw Go.Proofs.Ytiecjkkjcdjndaa.PAll Go.Proofs.YtiecjkkjcdjndaaW.PrintWords Go.Proofs.YtiecjkkjcdjndaaW.PrintLast Go.Proofs.YtiecjkkjcdjndaaW.PrintMore Go.Proofs.Ytiecjkkjcdjndaa.Mp Go.Proofs.Ytiecjkkjcdjndaa.Pure
attribute [local go_sem] Oper.semAt_some
theorem body_ready {l : List Int} {s : Int} {o : List Int} {a c : Int} (h2 : CR l.length s) : bodyP (ofM l s o l.length) a c l.length s = if readyB a c l.length s o = true then some (cutL l a c) else none := by
  rw [body_of h2]
  unfold readyB
  by_cases h : SR a c ∧ c ≤ l.length ∧ ∀ j ∈ o, ¬ ((cof a c s).1 ≤ j ∧ j < (cof a c s).2)
  · rw [if_pos h, if_pos (decide_eq_true h)]
  · rw [if_neg h, if_neg (by simpa using h)]
def rdy (l : List Int) (s : Int) (o : List Int) (x : SP) : Bool := readyB x.f0 x.f1 l.length s o
theorem parts_all {l : List Int} {s : Int} {o : List Int} (h2 : CR l.length s) : ∀ (L : List SP) (acc : List (SP × List Int)), partsP (ofM l s o l.length) l.length s L acc = if L.all (rdy l s o) = true then some (acc ++ L.map fun x => (x, cutL l x.f0 x.f1)) else none
  | [], acc => by simp [partsP]
  | x :: L, acc => by
    rw [partsP, body_ready h2, List.all_cons]
    unfold rdy
    cases hx : readyB x.f0 x.f1 l.length s o with
    | false => simp
    | true =>
      rw [if_pos rfl]
      simp only
      rw [parts_all h2 L _]
      simp [rdy]
theorem ready_in {l : List Int} {s : Int} {o : List Int} {a c : Int} (h : readyB a c l.length s o = true) : 0 ≤ a ∧ a ≤ c ∧ c ≤ l.length := by
  have := of_decide_eq_true h
  obtain ⟨⟨h0, h1, _⟩, h2, _⟩ := this
  exact ⟨h0, by omega, h2⟩
set_option maxRecDepth 100000 in
set_option maxHeartbeats 8000000 in
theorem bodies_law (A : Option Addr) (c : Nat) (l : List Int) (s : Int) (A2 : Option Addr) (c2 : Nat) (o : List Int) (a3 b3 : Int) (A4 : Option Addr) (c4 : Nat) (L : List SP) (w : World) (hC : (Kd.int .u8).C w A l.length l) (hc : l.length ≤ c) (hC2 : (Kd.int .i64).C w A2 o.length o) (hc2 : o.length ≤ c2) (hC4 : k31.C w A4 L.length L) :
    Calls Try.prog 4 #[.slice A l.length c, .int .i64 s, .slice A2 o.length c2, .agg #[.int .i64 a3, .int .i64 b3], .slice A4 L.length c4] w fun e w' => e = .returned (.bool true) ∧ Below w.heap.size w w' := by
  have CAw := Aside0.mk awake_calls
  have h6 := blk_alloc (blk_alloc (blk_new w (.cells #[.int .i64 s] 3 (0, 0))) (.cells #[.slice A2 o.length c2] 29 (0, 0))) (.cells #[.int .i64 a3, .int .i64 b3] 31 (0, 0))
  have h7 := blk_alloc (blk_new (w.alloc (.cells #[.int .i64 s] 3 (0, 0))) (.cells #[.slice A2 o.length c2] 29 (0, 0))) (.cells #[.int .i64 a3, .int .i64 b3] 31 (0, 0))
  have h8 := blk_new ((w.alloc (.cells #[.int .i64 s] 3 (0, 0))).alloc (.cells #[.slice A2 o.length c2] 29 (0, 0))) (.cells #[.int .i64 a3, .int .i64 b3] 31 (0, 0))
  have hBA := below_alloc (below_alloc (below_alloc (Below.refl w.heap.size w) (.cells #[.int .i64 s] 3 (0, 0))) (.cells #[.slice A2 o.length c2] 29 (0, 0))) (.cells #[.int .i64 a3, .int .i64 b3] 31 (0, 0))
  simp only [alloc_size] at h7 h8
  rw [show w.heap.size + 1 + 1 = w.heap.size + 2 from rfl] at h8
  obtain ⟨wA, hwA⟩ : ∃ X, ((w.alloc (.cells #[.int .i64 s] 3 (0, 0))).alloc (.cells #[.slice A2 o.length c2] 29 (0, 0))).alloc (.cells #[.int .i64 a3, .int .i64 b3] 31 (0, 0)) = X := ⟨_, rfl⟩
  rw [hwA] at h6 h7 h8 hBA
  have HW := Aside0.mk hwA
  clear hwA
  have hS6 : ∀ X, Below wA.heap.size wA X → X.cell? ⟨w.heap.size, 0, none⟩ = some (.int .i64 s) := fun X h => (blk_cell (blk_below h6 h) 0).trans rfl
  have hS7 : ∀ X, Below wA.heap.size wA X → X.cell? ⟨w.heap.size + 1, 0, none⟩ = some (.slice A2 o.length c2) := fun X h => (blk_cell (blk_below h7 h) 0).trans rfl
  have hS8 : ∀ X, Below wA.heap.size wA X → X.cell? ⟨w.heap.size + 2, 0, none⟩ = some (.int .i64 a3) := fun X h => (blk_cell (blk_below h8 h) 0).trans rfl
  have hS9 : ∀ X, Below wA.heap.size wA X → X.cell? ⟨w.heap.size + 2, 1, none⟩ = some (.int .i64 b3) := fun X h => (blk_cell (blk_below h8 h) 1).trans rfl
  replace hC := Aside0.mk hC
  replace hC2 := Aside0.mk hC2
  replace hC4 := Aside0.mk hC4
  replace hBA := Aside0.mk hBA
  replace h6 := Aside0.mk h6
  replace h7 := Aside0.mk h7
  replace h8 := Aside0.mk h8
  by_cases g0 : (l.length : Int) > 400
  · have d0 : decide ((l.length : Int) > 400) = true := decide_eq_true g0
    have e0 : decide (400 < (l.length : Int)) = true := decide_eq_true g0
    replace g0 := Aside0.mk g0
    go_enter Try.func4, Try.ntmps4
    go_wp2_with (go_at_call 6; rw [HW.out]; refine (CAw.out _).mono ?_; rintro e X1 ⟨rfl, hb1⟩)
    go_ret
    exact ⟨rfl, below_step hBA.out hb1⟩
  have d0 : decide ((l.length : Int) > 400) = false := decide_eq_false g0
  have e0 : decide (400 < (l.length : Int)) = false := decide_eq_false g0
  by_cases g1 : s < 1
  · have d1 : decide (s < 1) = true := decide_eq_true g1
    replace g0 := Aside0.mk g0
    replace g1 := Aside0.mk g1
    go_enter Try.func4, Try.ntmps4
    go_wp2_with (go_at_call 6; rw [HW.out]; refine (CAw.out _).mono ?_; rintro e X1 ⟨rfl, hb1⟩)
    go_ret
    exact ⟨rfl, below_step hBA.out hb1⟩
  have d1 : decide (s < 1) = false := decide_eq_false g1
  by_cases g2 : s > 64
  · have d2 : decide (s > 64) = true := decide_eq_true g2
    have e2 : decide (64 < s) = true := decide_eq_true g2
    replace g0 := Aside0.mk g0
    replace g1 := Aside0.mk g1
    replace g2 := Aside0.mk g2
    go_enter Try.func4, Try.ntmps4
    go_wp2_with (go_at_call 6; rw [HW.out]; refine (CAw.out _).mono ?_; rintro e X1 ⟨rfl, hb1⟩)
    go_ret
    exact ⟨rfl, below_step hBA.out hb1⟩
  have d2 : decide (s > 64) = false := decide_eq_false g2
  have e2 : decide (64 < s) = false := decide_eq_false g2
  by_cases g3 : (o.length : Int) > 40
  · have d3 : decide ((o.length : Int) > 40) = true := decide_eq_true g3
    have e3 : decide (40 < (o.length : Int)) = true := decide_eq_true g3
    replace g0 := Aside0.mk g0
    replace g1 := Aside0.mk g1
    replace g2 := Aside0.mk g2
    replace g3 := Aside0.mk g3
    go_enter Try.func4, Try.ntmps4
    go_wp2_with (go_at_call 6; rw [HW.out]; refine (CAw.out _).mono ?_; rintro e X1 ⟨rfl, hb1⟩)
    go_ret
    exact ⟨rfl, below_step hBA.out hb1⟩
  have d3 : decide ((o.length : Int) > 40) = false := decide_eq_false g3
  have e3 : decide (40 < (o.length : Int)) = false := decide_eq_false g3
  by_cases g4 : (L.length : Int) > 10
  · have d4 : decide ((L.length : Int) > 10) = true := decide_eq_true g4
    have e4 : decide (10 < (L.length : Int)) = true := decide_eq_true g4
    replace g0 := Aside0.mk g0
    replace g1 := Aside0.mk g1
    replace g2 := Aside0.mk g2
    replace g3 := Aside0.mk g3
    replace g4 := Aside0.mk g4
    go_enter Try.func4, Try.ntmps4
    go_wp2_with (go_at_call 6; rw [HW.out]; refine (CAw.out _).mono ?_; rintro e X1 ⟨rfl, hb1⟩)
    go_ret
    exact ⟨rfl, below_step hBA.out hb1⟩
  have d4 : decide ((L.length : Int) > 10) = false := decide_eq_false g4
  have e4 : decide (10 < (L.length : Int)) = false := decide_eq_false g4
  have hcr : CR l.length s := ⟨by omega, by omega, by omega, by omega⟩
  have hll : l.length ≤ 400 := by omega
  have hol : o.length ≤ 40 := by omega
  have hLl : L.length ≤ 10 := by omega
  replace g0 := Aside0.mk g0
  replace g1 := Aside0.mk g1
  replace g2 := Aside0.mk g2
  replace g3 := Aside0.mk g3
  replace g4 := Aside0.mk g4
  have COf := Aside0.mk (fun X h1 h2 => of_calls A c l s A2 c2 o X h1 hc h2 hc2 (by omega) (by omega))
  have CR_ := Aside0.mk (fun a b bn bs bo X h1 h2 h3 h4 => ready_calls a b l.length s A2 c2 o (by omega) hcr bn bs bo X h1 h2 h3 h4 hc2)
  have CBd : ∀ (b1 : Nat) (X : World), MB X b1 l.length (ofM l s o l.length) → Calls Try.prog 15 #[.map (some b1), .agg #[.int .i64 a3, .int .i64 b3], .int .i64 l.length, .int .i64 s] X fun e w' => ∃ v, e = .returned (.tuple #[v, .bool (readyB a3 b3 l.length s o)]) ∧ w'.ownsRow X.heap.size 5 1 v (if readyB a3 b3 l.length s o = true then cutL l a3 b3 else []).length (nums .u8 (if readyB a3 b3 l.length s o = true then cutL l a3 b3 else [])) ∧ Below X.heap.size X w' := fun b1 X hX => by
    have h := body_calls b1 l.length (ofM l s o l.length) a3 b3 l.length s X hX
    rw [body_ready hcr] at h
    cases hr : readyB a3 b3 l.length s o with
    | true => rw [hr] at h; exact h
    | false => rw [hr] at h; exact h
  have CPt : ∀ (b1 : Nat) (X : World), MB X b1 l.length (ofM l s o l.length) → k31.C X A4 L.length L → Calls Try.prog 16 #[.map (some b1), .slice A4 L.length c4, .int .i64 l.length, .int .i64 s] X fun e w' => ∃ v, e = .returned (.tuple #[v, .bool (L.all (rdy l s o))]) ∧ PRow w' X.heap.size v (if L.all (rdy l s o) = true then L.map (fun x => (x, cutL l x.f0 x.f1)) else []) ∧ Below X.heap.size X w' := fun b1 X hX hX4 => by
    have h := parts_calls b1 l.length (ofM l s o l.length) A4 c4 L l.length s X hX hX4 (by omega)
    rw [parts_all hcr] at h
    cases hr : L.all (rdy l s o) with
    | true => rw [hr] at h; exact h
    | false => rw [hr] at h; exact h
  replace hcr := Aside0.mk hcr
  have eg := ready_enters
  obtain ⟨i5, hi5, hi5z⟩ := Option.map_eq_some_iff.1 info5
  simp only [Prod.mk.injEq] at hi5z
  obtain ⟨R, hR⟩ : ∃ R, readyB a3 b3 l.length s o = R := ⟨_, rfl⟩
  have hcutR := fun h : readyB a3 b3 l.length s o = true => ready_in h
  obtain ⟨T, hT⟩ : ∃ T, L.all (rdy l s o) = T := ⟨_, rfl⟩
  rw [hR] at CBd hcutR
  rw [hT] at CPt
  have CRa := fun bn bs bo X h1 h2 h3 h4 => CR_.out a3 b3 bn bs bo X h1 h2 h3 h4
  rw [hR] at CRa
  replace hT := Aside0.mk hT
  replace hR := Aside0.mk hR
  have CBy := Aside0.mk (fun (A1 : Option Addr) (c1 : Nat) (A6 : Option Addr) (c6 : Nat) (ys : List Int) (hy : ys.length ≤ 100000) X h1 h2 h3 h4 => spenceref01_Bytes.calls (bytes_ev ys ys (by omega)).choose A1 c1 ys A6 c6 ys true X h1 h2 h3 h4 (((bytes_ev ys ys (by omega)).choose_spec _ (Nat.le_refl _)).trans (by rw [decide_eq_true rfl])))
  cases R <;> cases T
  case false.false =>
    clear hcutR
    simp only [Bool.false_eq_true, if_false] at CBd
    simp only [Bool.false_eq_true, if_false] at CPt
    replace CBd := Aside0.mk CBd
    replace CRa := Aside0.mk CRa
    replace CPt := Aside0.mk CPt
    go_enter Try.func4, Try.ntmps4
    go_wp2_with (first | (go_at_call 6; rw [HW.out]; (with_reducible refine (CAw.out _).mono ?_); rintro e X1 ⟨rfl, hb1⟩) | (go_at_call 8; (with_reducible refine (COf.out _ (Kd.C_below hC.out (below_step hBA.out hb1)) (Kd.C_below hC2.out (below_step hBA.out hb1))).mono ?_); rintro e X2 ⟨b1, rfl, hM1, hb2⟩; have hX2 := below_step hb1 hb2; have hX3 := below_alloc hX2 (.cells #[.int .i64 l.length] 3 (0, 0)); have hn3 := Aside0.mk (blk_new X2 (.cells #[.int .i64 l.length] 3 (0, 0))); have hM3 := Aside0.mk (hM1.below (below_alloc (Below.refl _ X2) (.cells #[.int .i64 l.length] 3 (0, 0)))); have h33 := Below.refl (X2.alloc (.cells #[.int .i64 l.length] 3 (0, 0))).heap.size (X2.alloc (.cells #[.int .i64 l.length] 3 (0, 0)))) | (go_at_call 15; (with_reducible refine (CBd.out b1 _ hM3.out).mono ?_); rintro e X4 ⟨v, rfl, ho, hb4⟩; obtain ⟨A5, c5, rfl⟩ := own_slice ho; have hX4 := below_step hX3 hb4; have hn4 := Aside0.mk (blk_below hn3.out hb4); have hSn : ∀ X, Below X4.heap.size X4 X → X.cell? ⟨X2.heap.size, 0, none⟩ = some (.int .i64 l.length) := (fun X h => (blk_cell (blk_below hn4.out h) 0).trans rfl); have hM4 := Aside0.mk (hM3.out.below hb4)) | (go_at_fn 11; (with_reducible refine (CRa.out X2.heap.size w.heap.size (w.heap.size + 1) X4 (blk_below hn3.out hb4) (blk_below h6.out hX4) (blk_below h7.out hX4) (Kd.C_below hC2.out (below_step hBA.out hX4))).mono ?_); rintro e X5 ⟨rfl, hb5⟩; have hX5 := below_step hX4 hb5; have h45 := hb5) | (go_at_call 16; refine (CPt.out b1 _ (hM4.out.below (by first | exact h46 | exact h45)) (Kd.C_below hC4.out (below_step hBA.out (by first | exact hX6 | exact hX5)))).mono ?_; rintro e X7 ⟨v7, rfl, hP7, hb7⟩; obtain ⟨A7, c7, rfl⟩ : ∃ A7 c7, v7 = .slice A7 0 c7 := (by obtain ⟨xs, hx, _⟩ := hP7; exact own_slice hx); clear hP7; have hX7 := Aside0.mk (below_step (by first | exact hX6 | exact hX5) hb7); have h47 := Aside0.mk (below_step (by first | exact h46 | exact h45) hb7)))
    have hn7 := Aside0.mk (blk_below hn4.out h47.out)
    have h67 := Aside0.mk (blk_below h6.out hX7.out)
    have h77 := Aside0.mk (blk_below h7.out hX7.out)
    have hW7 := Aside0.mk (below_step hBA.out hX7.out)
    clear hn3 hn4 hM3 hM4 hSn h33 hX3 hX2 hX4 hX5 CBd CRa CPt COf CAw hS6 hS7 hS8 hS9
    clear hb1 hb2 hb4 hb5 hM1 h45 hb7 ho
    (try clear hX6 h46 hb6 hC5)
    (try clear hsl hsr)
    generalize X2.heap.size = gn at hn7 ⊢
    go_loopg [18, 99] L.length (fun gg v18 v99 wr => ∃ (j : Nat) (z : Bool), v18 = .bool z ∧ v99 = .int .i64 j ∧ j ≤ L.length ∧ L.length - j ≤ gg ∧ Aside0 ((L.take j).all (rdy l s o) = z) ∧ Aside0 (Below X7.heap.size X7 wr))
    case atStart => exact ⟨0, true, rfl, rfl, Nat.zero_le _, by omega, ⟨rfl⟩, ⟨Below.refl _ _⟩⟩
    case round =>
      obtain ⟨j, z, rfl, rfl, hj, hgg, hz, hB⟩ := hrel
      by_cases hlt : j < L.length
      · have hltz : (j : Int) < (L.length : Int) := by omega
        have hWr := Aside0.mk (below_step hW7.out hB.out)
        obtain ⟨ad, eA, hx0, hx1⟩ := at_T31 (Kd.C_below hC4.out hWr.out) (j : Int) (by omega) (by omega)
        cases eA
        simp only [Int.toNat_natCast] at hx0 hx1
        have htake : (L.take (j + 1)).all (rdy l s o) = (z && rdy l s o (rd_T31 L (j : Int))) := by
          rw [List.take_succ_eq_append_getElem hlt, List.all_append, hz.out]
          simp [rd_T31, hlt]
        generalize rd_T31 L (j : Int) = x at hx0 hx1 htake
        have hBx := Aside0.mk (below_alloc hB.out (.cells #[.int .i64 x.f0, .int .i64 x.f1] 31 (0, 0)))
        have CRx := CR_.out x.f0 x.f1 gn w.heap.size (w.heap.size + 1) _ (blk_below hn7.out hBx.out) (blk_below h67.out hBx.out) (blk_below h77.out hBx.out) (Kd.C_below hC2.out (below_step hW7.out hBx.out))
        rw [show readyB x.f0 x.f1 l.length s o = rdy l s o x from rfl] at CRx
        generalize rdy l s o x = q at CRx htake
        replace CRx := Aside0.mk CRx
        replace htake := Aside0.mk htake
        cases z with
        | false =>
          go_wp2
          go_roundg (L.length - (j + 1))
          case measure => omega
          case rel => exact ⟨j + 1, false, rfl, by go_num, by omega, by omega, ⟨by rw [htake.out]; rfl⟩, ⟨hBx.out⟩⟩
        | true =>
          go_wp2_with (go_at_fn 11; (refine CRx.out.mono ?_); rintro e Y ⟨rfl, hY⟩)
          go_roundg (L.length - (j + 1))
          case measure => omega
          case rel => exact ⟨j + 1, q, rfl, by go_num, by omega, by omega, ⟨by rw [htake.out]; rfl⟩, ⟨below_step hBx.out hY⟩⟩
      · have hjl : j = L.length := by omega
        subst hjl
        have hltz : ¬ (L.length : Int) < (L.length : Int) := by omega
        have hzT := hz.out
        rw [List.take_length, hT.out] at hzT
        subst hzT
        clear hz
        go_wp2
        go_loopg [134] 0 (fun gg v134 wr => v134 = .int .i64 0 ∧ Aside0 (Below X7.heap.size X7 wr))
        case atStart => exact ⟨rfl, hB⟩
        case round =>
          obtain ⟨rfl, hB⟩ := hrel
          go_wp2
          go_ret
          exact ⟨rfl, below_step hW7.out hB.out⟩
  case false.true =>
    clear hcutR
    simp only [Bool.false_eq_true, if_false] at CBd
    simp only [if_true] at CPt
    replace CBd := Aside0.mk CBd
    replace CRa := Aside0.mk CRa
    replace CPt := Aside0.mk CPt
    go_enter Try.func4, Try.ntmps4
    go_wp2_with (first | (go_at_call 6; rw [HW.out]; (with_reducible refine (CAw.out _).mono ?_); rintro e X1 ⟨rfl, hb1⟩) | (go_at_call 8; (with_reducible refine (COf.out _ (Kd.C_below hC.out (below_step hBA.out hb1)) (Kd.C_below hC2.out (below_step hBA.out hb1))).mono ?_); rintro e X2 ⟨b1, rfl, hM1, hb2⟩; have hX2 := below_step hb1 hb2; have hX3 := below_alloc hX2 (.cells #[.int .i64 l.length] 3 (0, 0)); have hn3 := Aside0.mk (blk_new X2 (.cells #[.int .i64 l.length] 3 (0, 0))); have hM3 := Aside0.mk (hM1.below (below_alloc (Below.refl _ X2) (.cells #[.int .i64 l.length] 3 (0, 0)))); have h33 := Below.refl (X2.alloc (.cells #[.int .i64 l.length] 3 (0, 0))).heap.size (X2.alloc (.cells #[.int .i64 l.length] 3 (0, 0)))) | (go_at_call 15; (with_reducible refine (CBd.out b1 _ hM3.out).mono ?_); rintro e X4 ⟨v, rfl, ho, hb4⟩; obtain ⟨A5, c5, rfl⟩ := own_slice ho; have hX4 := below_step hX3 hb4; have hn4 := Aside0.mk (blk_below hn3.out hb4); have hSn : ∀ X, Below X4.heap.size X4 X → X.cell? ⟨X2.heap.size, 0, none⟩ = some (.int .i64 l.length) := (fun X h => (blk_cell (blk_below hn4.out h) 0).trans rfl); have hM4 := Aside0.mk (hM3.out.below hb4)) | (go_at_fn 11; (with_reducible refine (CRa.out X2.heap.size w.heap.size (w.heap.size + 1) X4 (blk_below hn3.out hb4) (blk_below h6.out hX4) (blk_below h7.out hX4) (Kd.C_below hC2.out (below_step hBA.out hX4))).mono ?_); rintro e X5 ⟨rfl, hb5⟩; have hX5 := below_step hX4 hb5; have h45 := hb5) | (go_at_call 16; refine (CPt.out b1 _ (hM4.out.below (by first | exact h46 | exact h45)) (Kd.C_below hC4.out (below_step hBA.out (by first | exact hX6 | exact hX5)))).mono ?_; rintro e X7 ⟨v7, rfl, hP7, hb7⟩; obtain ⟨A7, c7, rfl⟩ : ∃ A7 c7, v7 = .slice A7 L.length c7 := (by obtain ⟨xs, hx, _⟩ := hP7; rw [List.length_map] at hx; exact own_slice hx); replace hP7 := Aside0.mk hP7; have hX7 := Aside0.mk (below_step (by first | exact hX6 | exact hX5) hb7); have h47 := Aside0.mk (below_step (by first | exact h46 | exact h45) hb7)))
    have hn7 := Aside0.mk (blk_below hn4.out h47.out)
    have h67 := Aside0.mk (blk_below h6.out hX7.out)
    have h77 := Aside0.mk (blk_below h7.out hX7.out)
    have hW7 := Aside0.mk (below_step hBA.out hX7.out)
    clear hn3 hn4 hM3 hM4 hSn h33 hX3 hX2 hX4 hX5 CBd CRa CPt COf CAw hS6 hS7 hS8 hS9
    clear hb1 hb2 hb4 hb5 hM1 h45 hb7 ho
    (try clear hX6 h46 hb6 hC5)
    (try clear hsl hsr)
    generalize X2.heap.size = gn at hn7 ⊢
    go_loopg [18, 99] L.length (fun gg v18 v99 wr => ∃ (j : Nat) (z : Bool), v18 = .bool z ∧ v99 = .int .i64 j ∧ j ≤ L.length ∧ L.length - j ≤ gg ∧ Aside0 ((L.take j).all (rdy l s o) = z) ∧ Aside0 (Below X7.heap.size X7 wr))
    case atStart => exact ⟨0, true, rfl, rfl, Nat.zero_le _, by omega, ⟨rfl⟩, ⟨Below.refl _ _⟩⟩
    case round =>
      obtain ⟨j, z, rfl, rfl, hj, hgg, hz, hB⟩ := hrel
      by_cases hlt : j < L.length
      · have hltz : (j : Int) < (L.length : Int) := by omega
        have hWr := Aside0.mk (below_step hW7.out hB.out)
        obtain ⟨ad, eA, hx0, hx1⟩ := at_T31 (Kd.C_below hC4.out hWr.out) (j : Int) (by omega) (by omega)
        cases eA
        simp only [Int.toNat_natCast] at hx0 hx1
        have htake : (L.take (j + 1)).all (rdy l s o) = (z && rdy l s o (rd_T31 L (j : Int))) := by
          rw [List.take_succ_eq_append_getElem hlt, List.all_append, hz.out]
          simp [rd_T31, hlt]
        generalize rd_T31 L (j : Int) = x at hx0 hx1 htake
        have hBx := Aside0.mk (below_alloc hB.out (.cells #[.int .i64 x.f0, .int .i64 x.f1] 31 (0, 0)))
        have CRx := CR_.out x.f0 x.f1 gn w.heap.size (w.heap.size + 1) _ (blk_below hn7.out hBx.out) (blk_below h67.out hBx.out) (blk_below h77.out hBx.out) (Kd.C_below hC2.out (below_step hW7.out hBx.out))
        rw [show readyB x.f0 x.f1 l.length s o = rdy l s o x from rfl] at CRx
        generalize rdy l s o x = q at CRx htake
        replace CRx := Aside0.mk CRx
        replace htake := Aside0.mk htake
        cases z with
        | false =>
          go_wp2
          go_roundg (L.length - (j + 1))
          case measure => omega
          case rel => exact ⟨j + 1, false, rfl, by go_num, by omega, by omega, ⟨by rw [htake.out]; rfl⟩, ⟨hBx.out⟩⟩
        | true =>
          go_wp2_with (go_at_fn 11; (refine CRx.out.mono ?_); rintro e Y ⟨rfl, hY⟩)
          go_roundg (L.length - (j + 1))
          case measure => omega
          case rel => exact ⟨j + 1, q, rfl, by go_num, by omega, by omega, ⟨by rw [htake.out]; rfl⟩, ⟨below_step hBx.out hY⟩⟩
      · have hjl : j = L.length := by omega
        subst hjl
        have hltz : ¬ (L.length : Int) < (L.length : Int) := by omega
        have hzT := hz.out
        rw [List.take_length, hT.out] at hzT
        subst hzT
        clear hz
        obtain ⟨xs, hxr, hxc⟩ := hP7.out
        replace hxr := Aside0.mk hxr
        replace hxc := Aside0.mk hxc
        go_wp2
        clear hP7 CR_ eg hltz hgg hj
        go_loopg [134] L.length (fun gg v134 wr => ∃ j : Nat, v134 = .int .i64 j ∧ j ≤ L.length ∧ L.length - j ≤ gg ∧ Aside0 (Below X7.heap.size X7 wr))
        case atStart => exact ⟨0, rfl, Nat.zero_le _, by omega, hB⟩
        case round =>
          obtain ⟨j, rfl, hj, hgg, hB⟩ := hrel
          by_cases hlt : j < L.length
          · have hltz : (j : Int) < (L.length : Int) := by omega
            have hWr := Aside0.mk (below_step hW7.out hB.out)
            obtain ⟨ad, eA, hx0, hx1⟩ := at_T31 (Kd.C_below hC4.out hWr.out) (j : Int) (by omega) (by omega)
            cases eA
            simp only [Int.toNat_natCast] at hx0 hx1
            have hget : L[j]? = some (rd_T31 L (j : Int)) := by simp [rd_T31, hlt]
            have hrx : rdy l s o (rd_T31 L (j : Int)) = true := List.all_eq_true.1 hT.out _ (List.mem_of_getElem? hget)
            generalize rd_T31 L (j : Int) = x at hx0 hx1 hget hrx
            obtain ⟨hy0, hy1, hy2⟩ := ready_in hrx
            obtain ⟨u, hu0, hu1, hu2, hu3⟩ := hxc.out.at_ j (x, cutL l x.f0 x.f1) (by rw [List.getElem?_map, hget]; rfl)
            obtain ⟨g, cap, hform, hgb, hgl⟩ := hxr.out.form (by rw [List.length_map]; omega)
            simp only [Value.slice.injEq] at hform
            obtain ⟨hA7, hq1, hq2⟩ := hform
            clear hq1 hq2
            subst hA7
            have hp0 := (hB.out.cell (World.block_lt_of_cell? X7 _ (hxr.out.cells (g := g) rfl _ _ hu0))).trans (hxr.out.cells (g := g) rfl _ _ hu0)
            have hp1 := (hB.out.cell (World.block_lt_of_cell? X7 _ (hxr.out.cells (g := g) rfl _ _ hu1))).trans (hxr.out.cells (g := g) rfl _ _ hu1)
            have hp2 := (hB.out.cell (World.block_lt_of_cell? X7 _ (hxr.out.cells (g := g) rfl _ _ hu2))).trans (hxr.out.cells (g := g) rfl _ _ hu2)
            rw [Nat.mul_comm 3 j] at hp0 hp1 hp2
            rw [add_plain] at hp0 hp1 hp2
            obtain ⟨A8, hsl8, hsr8, hcap8⟩ := print_mid_int (k := .u8) 22 5 Try.underlying22 hi5 hi5z.2.1 A c l x.f0 x.f1 hy0 hy1 hy2 hc
            have hyl8 : ((l.take x.f1.toNat).drop x.f0.toNat).length ≤ 100000 := by rw [List.length_drop, List.length_take]; omega
            have hu3' : X7.ownsRow _ 5 1 u ((l.take x.f1.toNat).drop x.f0.toNat).length (nums .u8 ((l.take x.f1.toNat).drop x.f0.toNat)) := hu3
            clear hu3 hu0 hu1 hu2 hgl hgb
            generalize (l.take x.f1.toNat).drop x.f0.toNat = y8 at hsl8 hsr8 hcap8 hyl8 hu3'
            obtain ⟨A9, c9, rfl, hl9, hC9⟩ := own_row hu3'
            replace hC9 := Aside0.mk (Kd.C_below hC9 hB.out)
            replace hsr8 := Aside0.mk hsr8
            clear hu3'
            have hZ := Aside0.mk (below_alloc (Below.refl _ wr) (.cells #[.int .i64 x.f0, .int .i64 x.f1, .slice A9 y8.length c9] 44 (0, 0)))
            have hZn := Aside0.mk (blk_new wr (.cells #[.int .i64 x.f0, .int .i64 x.f1, .slice A9 y8.length c9] 44 (0, 0)))
            clear hget hrx hy0 hy1 hy2
            replace hyl8 := Aside0.mk hyl8
            replace hcap8 := Aside0.mk hcap8
            replace hl9 := Aside0.mk hl9
            go_wp2
            rename_i Kz hKz
            replace hKz := Aside0.mk hKz
            replace hx0 := hZ.out.cell (World.block_lt_of_cell? wr _ hx0) |>.trans hx0
            replace hx1 := hZ.out.cell (World.block_lt_of_cell? wr _ hx1) |>.trans hx1
            clear hp0 hp1 hp2
            generalize hgp : wr.heap.size = gp at hZn ⊢
            obtain ⟨Z, hZe⟩ : ∃ Z, wr.alloc (.cells #[.int .i64 x.f0, .int .i64 x.f1, .slice A9 y8.length c9] 44 (0, 0)) = Z := ⟨_, rfl⟩
            rw [hZe] at hZ hZn hx0 hx1 ⊢
            clear hZe
            have hZ' : Aside0 (Below wr.heap.size wr Z) := hZ
            clear hZ hgp
            have hS0 : ∀ X, Below Z.heap.size Z X → X.cell? ⟨gp, 0, none⟩ = some (.int .i64 x.f0) := fun X h => (blk_cell (blk_below hZn.out h) 0).trans rfl
            have hS1 : ∀ X, Below Z.heap.size Z X → X.cell? ⟨gp, 1, none⟩ = some (.int .i64 x.f1) := fun X h => (blk_cell (blk_below hZn.out h) 1).trans rfl
            have hS2 : ∀ X, Below Z.heap.size Z X → X.cell? ⟨gp, 2, none⟩ = some (.slice A9 y8.length c9) := fun X h => (blk_cell (blk_below hZn.out h) 2).trans rfl
            have hS3 : ∀ X, Below Z.heap.size Z X → X.cell? (ad.add (j * 2)) = some (.int .i64 x.f0) := fun X h => (h.cell (World.block_lt_of_cell? Z _ hx0)).trans hx0
            have hS4 : ∀ X, Below Z.heap.size Z X → X.cell? ⟨(ad.add (j * 2)).block, (ad.add (j * 2)).off + 1, none⟩ = some (.int .i64 x.f1) := fun X h => (h.cell (World.block_lt_of_cell? Z _ hx1)).trans hx1
            clear hx0 hx1
            have hX : Below Z.heap.size Z Z := Below.refl _ _
            refine wp_region_noPanic ?_
            refine wp_region_held_drew (S := fun X => Below Z.heap.size Z X) (by kernel_rfl) (below_drew hX) (fun hHeld => ?_)
            replace hX := Aside0.mk (below_drew hX)
            refine wpAnyH_take (i := 0) (oi := { dst := some 139, op := Go.Op.fieldAddr 44 (Go.Operand.tmp 22) 0, type := 0, pos := "law.go:63", after := #[], guard := none }) (v := ?_) rfl (by kernel_rfl) (by kernel_rfl) (by kernel_rfl) (fun _ _ _ h => h) (Or.inl ⟨by kernel_rfl, ?_⟩) (by assumption) ?_
            rotate_left
            · intro W hSw; go_simp; first | done | with_reducible rfl
            try simp only [Act.put, List.setIfInBounds_toArray, List.set_cons_zero, List.set_cons_succ]
            refine wpAnyH_take (i := 1) (oi := { dst := some 140, op := Go.Op.load 31 (Go.Operand.tmp 139), type := 31, pos := "law.go:63", after := #[{ on := 0, ground := Go.Ground.data }], guard := none }) (v := ?_) rfl (by kernel_rfl) (by kernel_rfl) (by kernel_rfl) (fun _ _ _ h => h) (Or.inl ⟨by kernel_rfl, ?_⟩) (by assumption) ?_
            rotate_left
            · intro W hSw; go_simp; first | done | with_reducible rfl
            try simp only [Act.put, List.setIfInBounds_toArray, List.set_cons_zero, List.set_cons_succ]
            refine wpAnyH_take (i := 2) (oi := { dst := some 141, op := Go.Op.move (Go.Operand.tmp 4), type := 35, pos := "law.go:63", after := #[], guard := none }) (v := ?_) rfl (by kernel_rfl) (by kernel_rfl) (by kernel_rfl) (fun _ _ _ h => h) (Or.inl ⟨by kernel_rfl, ?_⟩) (by assumption) ?_
            rotate_left
            · intro W hSw; go_simp; first | done | with_reducible rfl
            try simp only [Act.put, List.setIfInBounds_toArray, List.set_cons_zero, List.set_cons_succ]
            refine wpAnyH_take (i := 3) (oi := { dst := some 142, op := Go.Op.move (Go.Operand.tmp 21), type := 3, pos := "law.go:63", after := #[], guard := none }) (v := ?_) rfl (by kernel_rfl) (by kernel_rfl) (by kernel_rfl) (fun _ _ _ h => h) (Or.inl ⟨by kernel_rfl, ?_⟩) (by assumption) ?_
            rotate_left
            · intro W hSw; go_simp; first | done | with_reducible rfl
            try simp only [Act.put, List.setIfInBounds_toArray, List.set_cons_zero, List.set_cons_succ]
            refine wpAnyH_take (i := 4) (oi := { dst := some 143, op := Go.Op.indexAddr 35 (Go.Operand.tmp 141) (Go.Operand.tmp 142), type := 0, pos := "law.go:63", after := #[{ on := 2, ground := Go.Ground.data }, { on := 3, ground := Go.Ground.data }], guard := none }) (v := ?_) rfl (by kernel_rfl) (by kernel_rfl) (by kernel_rfl) (fun _ _ _ h => h) (Or.inl ⟨by kernel_rfl, ?_⟩) (by assumption) ?_
            rotate_left
            · intro W hSw; go_simp; first | done | with_reducible rfl
            try simp only [Act.put, List.setIfInBounds_toArray, List.set_cons_zero, List.set_cons_succ]
            refine wpAnyH_take (i := 5) (oi := { dst := some 144, op := Go.Op.load 31 (Go.Operand.tmp 143), type := 31, pos := "law.go:63", after := #[{ on := 4, ground := Go.Ground.data }], guard := none }) (v := ?_) rfl (by kernel_rfl) (by kernel_rfl) (by kernel_rfl) (fun _ _ _ h => h) (Or.inl ⟨by kernel_rfl, ?_⟩) (by assumption) ?_
            rotate_left
            · intro W hSw; go_simp; first | done | with_reducible rfl
            try simp only [Act.put, List.setIfInBounds_toArray, List.set_cons_zero, List.set_cons_succ]
            refine wpAnyH_take (i := 6) (oi := { dst := some 145, op := Go.Op.binOp Go.BinOp.neq 31 (Go.Operand.tmp 140) (Go.Operand.tmp 144) 31, type := 4, pos := "law.go:63", after := #[{ on := 1, ground := Go.Ground.data }, { on := 5, ground := Go.Ground.data }], guard := none }) (v := ?_) rfl (by kernel_rfl) (by kernel_rfl) (by kernel_rfl) (fun _ _ _ h => h) (Or.inl ⟨by kernel_rfl, ?_⟩) (by assumption) ?_
            rotate_left
            · intro W hSw; go_simp; first | done | with_reducible rfl
            try simp only [Act.put, List.setIfInBounds_toArray, List.set_cons_zero, List.set_cons_succ]
            refine wpAnyH_take (i := 7) (oi := { dst := some 146, op := Go.Op.move (Go.Operand.tmp 145), type := 4, pos := "law.go:63", after := #[{ on := 6, ground := Go.Ground.data }], guard := none }) (v := ?_) rfl (by kernel_rfl) (by kernel_rfl) (by kernel_rfl) (fun _ _ _ h => h) (Or.inl ⟨by kernel_rfl, ?_⟩) (by assumption) ?_
            rotate_left
            · intro W hSw; go_simp; first | done | with_reducible rfl
            try simp only [Act.put, List.setIfInBounds_toArray, List.set_cons_zero, List.set_cons_succ]
            refine wpAnyH_take (i := 8) (oi := { dst := some 147, op := Go.Op.fieldAddr 44 (Go.Operand.tmp 22) 1, type := 0, pos := "law.go:63", after := #[{ on := 7, ground := Go.Ground.guard }], guard := some (7, false) }) (v := ?_) rfl (by kernel_rfl) (by kernel_rfl) (by kernel_rfl) (fun _ _ _ h => h) (Or.inl ⟨by kernel_rfl, ?_⟩) (by assumption) ?_
            rotate_left
            · intro W hSw; go_simp; first | done | with_reducible rfl
            try simp only [Act.put, List.setIfInBounds_toArray, List.set_cons_zero, List.set_cons_succ]
            refine wpAnyH_take (i := 9) (oi := { dst := some 148, op := Go.Op.load 22 (Go.Operand.tmp 147), type := 22, pos := "law.go:63", after := #[{ on := 8, ground := Go.Ground.data }, { on := 7, ground := Go.Ground.guard }], guard := some (7, false) }) (v := ?_) rfl (by kernel_rfl) (by kernel_rfl) (by kernel_rfl) (fun _ _ _ h => h) (Or.inl ⟨by kernel_rfl, ?_⟩) (by assumption) ?_
            rotate_left
            · intro W hSw; go_simp; first | done | with_reducible rfl
            try simp only [Act.put, List.setIfInBounds_toArray, List.set_cons_zero, List.set_cons_succ]
            refine wpAnyH_take (i := 10) (oi := { dst := some 149, op := Go.Op.move (Go.Operand.tmp 0), type := 22, pos := "law.go:63", after := #[{ on := 7, ground := Go.Ground.guard }], guard := some (7, false) }) (v := ?_) rfl (by kernel_rfl) (by kernel_rfl) (by kernel_rfl) (fun _ _ _ h => h) (Or.inl ⟨by kernel_rfl, ?_⟩) (by assumption) ?_
            rotate_left
            · intro W hSw; go_simp; first | done | with_reducible rfl
            try simp only [Act.put, List.setIfInBounds_toArray, List.set_cons_zero, List.set_cons_succ]
            refine wpAnyH_take (i := 11) (oi := { dst := some 150, op := Go.Op.move (Go.Operand.tmp 4), type := 35, pos := "law.go:63", after := #[{ on := 7, ground := Go.Ground.guard }], guard := some (7, false) }) (v := ?_) rfl (by kernel_rfl) (by kernel_rfl) (by kernel_rfl) (fun _ _ _ h => h) (Or.inl ⟨by kernel_rfl, ?_⟩) (by assumption) ?_
            rotate_left
            · intro W hSw; go_simp; first | done | with_reducible rfl
            try simp only [Act.put, List.setIfInBounds_toArray, List.set_cons_zero, List.set_cons_succ]
            refine wpAnyH_take (i := 12) (oi := { dst := some 151, op := Go.Op.move (Go.Operand.tmp 21), type := 3, pos := "law.go:63", after := #[{ on := 7, ground := Go.Ground.guard }], guard := some (7, false) }) (v := ?_) rfl (by kernel_rfl) (by kernel_rfl) (by kernel_rfl) (fun _ _ _ h => h) (Or.inl ⟨by kernel_rfl, ?_⟩) (by assumption) ?_
            rotate_left
            · intro W hSw; go_simp; first | done | with_reducible rfl
            try simp only [Act.put, List.setIfInBounds_toArray, List.set_cons_zero, List.set_cons_succ]
            refine wpAnyH_take (i := 13) (oi := { dst := some 152, op := Go.Op.indexAddr 35 (Go.Operand.tmp 150) (Go.Operand.tmp 151), type := 0, pos := "law.go:63", after := #[{ on := 11, ground := Go.Ground.data }, { on := 12, ground := Go.Ground.data }, { on := 7, ground := Go.Ground.guard }], guard := some (7, false) }) (v := ?_) rfl (by kernel_rfl) (by kernel_rfl) (by kernel_rfl) (fun _ _ _ h => h) (Or.inl ⟨by kernel_rfl, ?_⟩) (by assumption) ?_
            rotate_left
            · intro W hSw; go_simp; first | done | with_reducible rfl
            try simp only [Act.put, List.setIfInBounds_toArray, List.set_cons_zero, List.set_cons_succ]
            refine wpAnyH_take (i := 14) (oi := { dst := some 153, op := Go.Op.fieldAddr 31 (Go.Operand.tmp 152) 0, type := 0, pos := "law.go:63", after := #[{ on := 13, ground := Go.Ground.data }, { on := 7, ground := Go.Ground.guard }], guard := some (7, false) }) (v := ?_) rfl (by kernel_rfl) (by kernel_rfl) (by kernel_rfl) (fun _ _ _ h => h) (Or.inl ⟨by kernel_rfl, ?_⟩) (by assumption) ?_
            rotate_left
            · intro W hSw; go_simp; first | done | with_reducible rfl
            try simp only [Act.put, List.setIfInBounds_toArray, List.set_cons_zero, List.set_cons_succ]
            refine wpAnyH_take (i := 15) (oi := { dst := some 154, op := Go.Op.load 3 (Go.Operand.tmp 153), type := 3, pos := "law.go:63", after := #[{ on := 14, ground := Go.Ground.data }, { on := 7, ground := Go.Ground.guard }], guard := some (7, false) }) (v := ?_) rfl (by kernel_rfl) (by kernel_rfl) (by kernel_rfl) (fun _ _ _ h => h) (Or.inl ⟨by kernel_rfl, ?_⟩) (by assumption) ?_
            rotate_left
            · intro W hSw; go_simp; first | done | with_reducible rfl
            try simp only [Act.put, List.setIfInBounds_toArray, List.set_cons_zero, List.set_cons_succ]
            refine wpAnyH_take (i := 16) (oi := { dst := some 155, op := Go.Op.move (Go.Operand.tmp 4), type := 35, pos := "law.go:63", after := #[{ on := 7, ground := Go.Ground.guard }], guard := some (7, false) }) (v := ?_) rfl (by kernel_rfl) (by kernel_rfl) (by kernel_rfl) (fun _ _ _ h => h) (Or.inl ⟨by kernel_rfl, ?_⟩) (by assumption) ?_
            rotate_left
            · intro W hSw; go_simp; first | done | with_reducible rfl
            try simp only [Act.put, List.setIfInBounds_toArray, List.set_cons_zero, List.set_cons_succ]
            refine wpAnyH_take (i := 17) (oi := { dst := some 156, op := Go.Op.move (Go.Operand.tmp 21), type := 3, pos := "law.go:63", after := #[{ on := 7, ground := Go.Ground.guard }], guard := some (7, false) }) (v := ?_) rfl (by kernel_rfl) (by kernel_rfl) (by kernel_rfl) (fun _ _ _ h => h) (Or.inl ⟨by kernel_rfl, ?_⟩) (by assumption) ?_
            rotate_left
            · intro W hSw; go_simp; first | done | with_reducible rfl
            try simp only [Act.put, List.setIfInBounds_toArray, List.set_cons_zero, List.set_cons_succ]
            refine wpAnyH_take (i := 18) (oi := { dst := some 157, op := Go.Op.indexAddr 35 (Go.Operand.tmp 155) (Go.Operand.tmp 156), type := 0, pos := "law.go:63", after := #[{ on := 16, ground := Go.Ground.data }, { on := 17, ground := Go.Ground.data }, { on := 7, ground := Go.Ground.guard }], guard := some (7, false) }) (v := ?_) rfl (by kernel_rfl) (by kernel_rfl) (by kernel_rfl) (fun _ _ _ h => h) (Or.inl ⟨by kernel_rfl, ?_⟩) (by assumption) ?_
            rotate_left
            · intro W hSw; go_simp; first | done | with_reducible rfl
            try simp only [Act.put, List.setIfInBounds_toArray, List.set_cons_zero, List.set_cons_succ]
            refine wpAnyH_take (i := 19) (oi := { dst := some 158, op := Go.Op.fieldAddr 31 (Go.Operand.tmp 157) 1, type := 0, pos := "law.go:63", after := #[{ on := 18, ground := Go.Ground.data }, { on := 7, ground := Go.Ground.guard }], guard := some (7, false) }) (v := ?_) rfl (by kernel_rfl) (by kernel_rfl) (by kernel_rfl) (fun _ _ _ h => h) (Or.inl ⟨by kernel_rfl, ?_⟩) (by assumption) ?_
            rotate_left
            · intro W hSw; go_simp; first | done | with_reducible rfl
            try simp only [Act.put, List.setIfInBounds_toArray, List.set_cons_zero, List.set_cons_succ]
            refine wpAnyH_take (i := 20) (oi := { dst := some 159, op := Go.Op.load 3 (Go.Operand.tmp 158), type := 3, pos := "law.go:63", after := #[{ on := 19, ground := Go.Ground.data }, { on := 7, ground := Go.Ground.guard }], guard := some (7, false) }) (v := ?_) rfl (by kernel_rfl) (by kernel_rfl) (by kernel_rfl) (fun _ _ _ h => h) (Or.inl ⟨by kernel_rfl, ?_⟩) (by assumption) ?_
            rotate_left
            · intro W hSw; go_simp; first | done | with_reducible rfl
            try simp only [Act.put, List.setIfInBounds_toArray, List.set_cons_zero, List.set_cons_succ]
            refine wpAnyH_take (i := 21) (oi := { dst := some 160, op := Go.Op.slice 22 (Go.Operand.tmp 149) (some (Go.Operand.tmp 154)) (some (Go.Operand.tmp 159)) none, type := 22, pos := "law.go:63", after := #[{ on := 10, ground := Go.Ground.data }, { on := 15, ground := Go.Ground.data }, { on := 20, ground := Go.Ground.data }, { on := 7, ground := Go.Ground.guard }], guard := some (7, false) }) (v := ?_) rfl (by kernel_rfl) (by kernel_rfl) (by kernel_rfl) (fun _ _ _ h => h) (Or.inl ⟨by kernel_rfl, ?_⟩) (by assumption) ?_
            rotate_left
            · intro W hSw; go_simp; first | done | with_reducible rfl
            try simp only [Act.put, List.setIfInBounds_toArray, List.set_cons_zero, List.set_cons_succ]
            refine wpAnyH_ready (rs := [22]) (by kernel_rfl) (by simp) ?_
            refine AllReadyH.cons (o := { dst := some 161, op := Go.Op.call { callee := Go.Callee.value (Go.Operand.func 10), args := #[Go.Operand.tmp 148, Go.Operand.tmp 160], argTypes := #[22, 22] }, type := 4, pos := "law.go:63", after := #[{ on := 9, ground := Go.Ground.data }, { on := 21, ground := Go.Ground.data }, { on := 7, ground := Go.Ground.chain }, { on := 7, ground := Go.Ground.guard }], guard := some (7, false) }) rfl (fun K hK => ?_) AllReadyH.nil
            refine goes_ (N := some 161) («as» := #[.tmp 148, .tmp 160]) Try.func10 (by kernel_rfl) rfl #[.slice A9 y8.length c9, .slice A8 y8.length (c - x.f0.toNat)] (by kernel_rfl) rfl rfl (by kernel_rfl) ?_
            refine (CBy.out A9 c9 A8 _ y8 hyl8.out _ (Kd.C_below hC9.out (below_step hZ'.out hX.out)) hl9.out (Kd.C_of_reads (d := (0 : Int)) (hsr8.out _ (Kd.reads_of_C (d := (0 : Int)) (Kd.C_below hC.out (below_step (below_step hWr.out hZ'.out) hX.out))))) hcap8.out).mono ?_
            rintro e Y ⟨rfl, hb⟩
            refine ⟨_, rfl, ?_⟩
            replace hX := Aside0.mk (below_step hX.out hb.below)
            clear hb
            refine hK.out _ _ ?_ (fun hHeld => ?_)
            · exact hX.out
            clear hK K
            try simp only [Act.put, List.setIfInBounds_toArray, List.set_cons_zero, List.set_cons_succ]
            refine wpAnyH_take (i := 23) (oi := { dst := some 162, op := Go.Op.unOp Go.UnOp.not 4 (Go.Operand.tmp 161), type := 4, pos := "law.go:63", after := #[{ on := 22, ground := Go.Ground.data }, { on := 7, ground := Go.Ground.guard }], guard := some (7, false) }) (v := ?_) rfl (by kernel_rfl) (by kernel_rfl) (by kernel_rfl) (fun _ _ _ h => h) (Or.inl ⟨by kernel_rfl, ?_⟩) (by assumption) ?_
            rotate_left
            · intro W hSw; go_simp; first | done | with_reducible rfl
            try simp only [Act.put, List.setIfInBounds_toArray, List.set_cons_zero, List.set_cons_succ]
            refine wpAnyH_take (i := 24) (oi := { dst := some 163, op := Go.Op.pick (Go.Operand.tmp 146) (Go.Operand.const (Go.Value.bool true)) (Go.Operand.tmp 162), type := 4, pos := "law.go:63", after := #[{ on := 7, ground := Go.Ground.data }, { on := 23, ground := Go.Ground.data }], guard := none }) (v := ?_) rfl (by kernel_rfl) (by kernel_rfl) (by kernel_rfl) (fun _ _ _ h => h) (Or.inl ⟨by kernel_rfl, ?_⟩) (by assumption) ?_
            rotate_left
            · intro W hSw; go_simp; first | done | with_reducible rfl
            try simp only [Act.put, List.setIfInBounds_toArray, List.set_cons_zero, List.set_cons_succ]
            refine wpAnyH_done (by kernel_rfl) ?_ _
            try simp only [Act.put, List.setIfInBounds_toArray, List.set_cons_zero, List.set_cons_succ, List.getElem_toArray, List.getElem_cons_zero, List.getElem_cons_succ]
            refine NoPanic.normal ?_
            (try dsimp only [Exit.then])
            refine hKz.out _ _ ?_
            clear hHeld hS0 hS1 hS2 hS3 hS4
            go_wp2
            go_roundg (L.length - (j + 1))
            case measure => omega
            case rel => exact ⟨j + 1, by go_num, by omega, by omega, ⟨below_step (below_step hB.out hZ'.out) hX.out⟩⟩
          · have hjl : j = L.length := by omega
            subst hjl
            have hltz : ¬ (L.length : Int) < (L.length : Int) := by omega
            go_wp2
            go_ret
            exact ⟨rfl, below_step hW7.out hB.out⟩
  case true.false =>
    obtain ⟨hz0, hz1, hz2⟩ := hcutR rfl
    clear hcutR
    simp only [if_true] at CBd
    simp only [Bool.false_eq_true, if_false] at CPt
    obtain ⟨A6, hsl, hsr, hcap6⟩ := print_mid_int (k := .u8) 22 5 Try.underlying22 hi5 hi5z.2.1 A c l a3 b3 hz0 hz1 hz2 hc
    have hyl : ((l.take b3.toNat).drop a3.toNat).length ≤ 100000 := by rw [List.length_drop, List.length_take]; omega
    rw [show cutL l a3 b3 = (l.take b3.toNat).drop a3.toNat from rfl] at CBd
    generalize (l.take b3.toNat).drop a3.toNat = ys at hsl hsr hcap6 hyl CBd
    replace hsr := Aside0.mk hsr
    replace hz0 := Aside0.mk hz0
    replace hz1 := Aside0.mk hz1
    replace hz2 := Aside0.mk hz2
    replace CBd := Aside0.mk CBd
    replace CRa := Aside0.mk CRa
    replace CPt := Aside0.mk CPt
    go_enter Try.func4, Try.ntmps4
    go_wp2_with (first | (go_at_call 6; rw [HW.out]; (with_reducible refine (CAw.out _).mono ?_); rintro e X1 ⟨rfl, hb1⟩) | (go_at_call 8; (with_reducible refine (COf.out _ (Kd.C_below hC.out (below_step hBA.out hb1)) (Kd.C_below hC2.out (below_step hBA.out hb1))).mono ?_); rintro e X2 ⟨b1, rfl, hM1, hb2⟩; have hX2 := below_step hb1 hb2; have hX3 := below_alloc hX2 (.cells #[.int .i64 l.length] 3 (0, 0)); have hn3 := Aside0.mk (blk_new X2 (.cells #[.int .i64 l.length] 3 (0, 0))); have hM3 := Aside0.mk (hM1.below (below_alloc (Below.refl _ X2) (.cells #[.int .i64 l.length] 3 (0, 0)))); have h33 := Below.refl (X2.alloc (.cells #[.int .i64 l.length] 3 (0, 0))).heap.size (X2.alloc (.cells #[.int .i64 l.length] 3 (0, 0)))) | (go_at_call 15; (with_reducible refine (CBd.out b1 _ hM3.out).mono ?_); rintro e X4 ⟨v, rfl, ho, hb4⟩; obtain ⟨A5, c5, rfl, hl5, hC5⟩ := own_row ho; replace hC5 := Aside0.mk hC5; have hX4 := below_step hX3 hb4; have hn4 := Aside0.mk (blk_below hn3.out hb4); have hSn : ∀ X, Below X4.heap.size X4 X → X.cell? ⟨X2.heap.size, 0, none⟩ = some (.int .i64 l.length) := (fun X h => (blk_cell (blk_below hn4.out h) 0).trans rfl); have hM4 := Aside0.mk (hM3.out.below hb4)) | (go_at_fn 11; (with_reducible refine (CRa.out X2.heap.size w.heap.size (w.heap.size + 1) X4 (blk_below hn3.out hb4) (blk_below h6.out hX4) (blk_below h7.out hX4) (Kd.C_below hC2.out (below_step hBA.out hX4))).mono ?_); rintro e X5 ⟨rfl, hb5⟩; have hX5 := below_step hX4 hb5; have h45 := hb5) | (go_at_call 10; (refine (CBy.out A5 c5 A6 _ ys hyl X5 (Kd.C_below hC5.out hb5) hl5 (Kd.C_of_reads (d := (0 : Int)) (hsr.out _ (Kd.reads_of_C (d := (0 : Int)) (Kd.C_below hC.out (below_step hBA.out hX5))))) hcap6).mono ?_); rintro e X6 ⟨rfl, hb6⟩; have hX6 := below_step hX5 hb6.below; have h46 := below_step h45 hb6.below) | (go_at_call 16; refine (CPt.out b1 _ (hM4.out.below (by first | exact h46 | exact h45)) (Kd.C_below hC4.out (below_step hBA.out (by first | exact hX6 | exact hX5)))).mono ?_; rintro e X7 ⟨v7, rfl, hP7, hb7⟩; obtain ⟨A7, c7, rfl⟩ : ∃ A7 c7, v7 = .slice A7 0 c7 := (by obtain ⟨xs, hx, _⟩ := hP7; exact own_slice hx); clear hP7; have hX7 := Aside0.mk (below_step (by first | exact hX6 | exact hX5) hb7); have h47 := Aside0.mk (below_step (by first | exact h46 | exact h45) hb7)))
    have hn7 := Aside0.mk (blk_below hn4.out h47.out)
    have h67 := Aside0.mk (blk_below h6.out hX7.out)
    have h77 := Aside0.mk (blk_below h7.out hX7.out)
    have hW7 := Aside0.mk (below_step hBA.out hX7.out)
    clear hn3 hn4 hM3 hM4 hSn h33 hX3 hX2 hX4 hX5 CBd CRa CPt COf CAw hS6 hS7 hS8 hS9
    clear hb1 hb2 hb4 hb5 hM1 h45 hb7 ho
    (try clear hX6 h46 hb6 hC5)
    (try clear hsl hsr)
    generalize X2.heap.size = gn at hn7 ⊢
    go_loopg [18, 99] L.length (fun gg v18 v99 wr => ∃ (j : Nat) (z : Bool), v18 = .bool z ∧ v99 = .int .i64 j ∧ j ≤ L.length ∧ L.length - j ≤ gg ∧ Aside0 ((L.take j).all (rdy l s o) = z) ∧ Aside0 (Below X7.heap.size X7 wr))
    case atStart => exact ⟨0, true, rfl, rfl, Nat.zero_le _, by omega, ⟨rfl⟩, ⟨Below.refl _ _⟩⟩
    case round =>
      obtain ⟨j, z, rfl, rfl, hj, hgg, hz, hB⟩ := hrel
      by_cases hlt : j < L.length
      · have hltz : (j : Int) < (L.length : Int) := by omega
        have hWr := Aside0.mk (below_step hW7.out hB.out)
        obtain ⟨ad, eA, hx0, hx1⟩ := at_T31 (Kd.C_below hC4.out hWr.out) (j : Int) (by omega) (by omega)
        cases eA
        simp only [Int.toNat_natCast] at hx0 hx1
        have htake : (L.take (j + 1)).all (rdy l s o) = (z && rdy l s o (rd_T31 L (j : Int))) := by
          rw [List.take_succ_eq_append_getElem hlt, List.all_append, hz.out]
          simp [rd_T31, hlt]
        generalize rd_T31 L (j : Int) = x at hx0 hx1 htake
        have hBx := Aside0.mk (below_alloc hB.out (.cells #[.int .i64 x.f0, .int .i64 x.f1] 31 (0, 0)))
        have CRx := CR_.out x.f0 x.f1 gn w.heap.size (w.heap.size + 1) _ (blk_below hn7.out hBx.out) (blk_below h67.out hBx.out) (blk_below h77.out hBx.out) (Kd.C_below hC2.out (below_step hW7.out hBx.out))
        rw [show readyB x.f0 x.f1 l.length s o = rdy l s o x from rfl] at CRx
        generalize rdy l s o x = q at CRx htake
        replace CRx := Aside0.mk CRx
        replace htake := Aside0.mk htake
        cases z with
        | false =>
          go_wp2
          go_roundg (L.length - (j + 1))
          case measure => omega
          case rel => exact ⟨j + 1, false, rfl, by go_num, by omega, by omega, ⟨by rw [htake.out]; rfl⟩, ⟨hBx.out⟩⟩
        | true =>
          go_wp2_with (go_at_fn 11; (refine CRx.out.mono ?_); rintro e Y ⟨rfl, hY⟩)
          go_roundg (L.length - (j + 1))
          case measure => omega
          case rel => exact ⟨j + 1, q, rfl, by go_num, by omega, by omega, ⟨by rw [htake.out]; rfl⟩, ⟨below_step hBx.out hY⟩⟩
      · have hjl : j = L.length := by omega
        subst hjl
        have hltz : ¬ (L.length : Int) < (L.length : Int) := by omega
        have hzT := hz.out
        rw [List.take_length, hT.out] at hzT
        subst hzT
        clear hz
        go_wp2
        go_loopg [134] 0 (fun gg v134 wr => v134 = .int .i64 0 ∧ Aside0 (Below X7.heap.size X7 wr))
        case atStart => exact ⟨rfl, hB⟩
        case round =>
          obtain ⟨rfl, hB⟩ := hrel
          go_wp2
          go_ret
          exact ⟨rfl, below_step hW7.out hB.out⟩
  case true.true =>
    obtain ⟨hz0, hz1, hz2⟩ := hcutR rfl
    clear hcutR
    simp only [if_true] at CBd
    simp only [if_true] at CPt
    obtain ⟨A6, hsl, hsr, hcap6⟩ := print_mid_int (k := .u8) 22 5 Try.underlying22 hi5 hi5z.2.1 A c l a3 b3 hz0 hz1 hz2 hc
    have hyl : ((l.take b3.toNat).drop a3.toNat).length ≤ 100000 := by rw [List.length_drop, List.length_take]; omega
    rw [show cutL l a3 b3 = (l.take b3.toNat).drop a3.toNat from rfl] at CBd
    generalize (l.take b3.toNat).drop a3.toNat = ys at hsl hsr hcap6 hyl CBd
    replace hsr := Aside0.mk hsr
    replace hz0 := Aside0.mk hz0
    replace hz1 := Aside0.mk hz1
    replace hz2 := Aside0.mk hz2
    replace CBd := Aside0.mk CBd
    replace CRa := Aside0.mk CRa
    replace CPt := Aside0.mk CPt
    go_enter Try.func4, Try.ntmps4
    go_wp2_with (first | (go_at_call 6; rw [HW.out]; (with_reducible refine (CAw.out _).mono ?_); rintro e X1 ⟨rfl, hb1⟩) | (go_at_call 8; (with_reducible refine (COf.out _ (Kd.C_below hC.out (below_step hBA.out hb1)) (Kd.C_below hC2.out (below_step hBA.out hb1))).mono ?_); rintro e X2 ⟨b1, rfl, hM1, hb2⟩; have hX2 := below_step hb1 hb2; have hX3 := below_alloc hX2 (.cells #[.int .i64 l.length] 3 (0, 0)); have hn3 := Aside0.mk (blk_new X2 (.cells #[.int .i64 l.length] 3 (0, 0))); have hM3 := Aside0.mk (hM1.below (below_alloc (Below.refl _ X2) (.cells #[.int .i64 l.length] 3 (0, 0)))); have h33 := Below.refl (X2.alloc (.cells #[.int .i64 l.length] 3 (0, 0))).heap.size (X2.alloc (.cells #[.int .i64 l.length] 3 (0, 0)))) | (go_at_call 15; (with_reducible refine (CBd.out b1 _ hM3.out).mono ?_); rintro e X4 ⟨v, rfl, ho, hb4⟩; obtain ⟨A5, c5, rfl, hl5, hC5⟩ := own_row ho; replace hC5 := Aside0.mk hC5; have hX4 := below_step hX3 hb4; have hn4 := Aside0.mk (blk_below hn3.out hb4); have hSn : ∀ X, Below X4.heap.size X4 X → X.cell? ⟨X2.heap.size, 0, none⟩ = some (.int .i64 l.length) := (fun X h => (blk_cell (blk_below hn4.out h) 0).trans rfl); have hM4 := Aside0.mk (hM3.out.below hb4)) | (go_at_fn 11; (with_reducible refine (CRa.out X2.heap.size w.heap.size (w.heap.size + 1) X4 (blk_below hn3.out hb4) (blk_below h6.out hX4) (blk_below h7.out hX4) (Kd.C_below hC2.out (below_step hBA.out hX4))).mono ?_); rintro e X5 ⟨rfl, hb5⟩; have hX5 := below_step hX4 hb5; have h45 := hb5) | (go_at_call 10; (refine (CBy.out A5 c5 A6 _ ys hyl X5 (Kd.C_below hC5.out hb5) hl5 (Kd.C_of_reads (d := (0 : Int)) (hsr.out _ (Kd.reads_of_C (d := (0 : Int)) (Kd.C_below hC.out (below_step hBA.out hX5))))) hcap6).mono ?_); rintro e X6 ⟨rfl, hb6⟩; have hX6 := below_step hX5 hb6.below; have h46 := below_step h45 hb6.below) | (go_at_call 16; refine (CPt.out b1 _ (hM4.out.below (by first | exact h46 | exact h45)) (Kd.C_below hC4.out (below_step hBA.out (by first | exact hX6 | exact hX5)))).mono ?_; rintro e X7 ⟨v7, rfl, hP7, hb7⟩; obtain ⟨A7, c7, rfl⟩ : ∃ A7 c7, v7 = .slice A7 L.length c7 := (by obtain ⟨xs, hx, _⟩ := hP7; rw [List.length_map] at hx; exact own_slice hx); replace hP7 := Aside0.mk hP7; have hX7 := Aside0.mk (below_step (by first | exact hX6 | exact hX5) hb7); have h47 := Aside0.mk (below_step (by first | exact h46 | exact h45) hb7)))
    have hn7 := Aside0.mk (blk_below hn4.out h47.out)
    have h67 := Aside0.mk (blk_below h6.out hX7.out)
    have h77 := Aside0.mk (blk_below h7.out hX7.out)
    have hW7 := Aside0.mk (below_step hBA.out hX7.out)
    clear hn3 hn4 hM3 hM4 hSn h33 hX3 hX2 hX4 hX5 CBd CRa CPt COf CAw hS6 hS7 hS8 hS9
    clear hb1 hb2 hb4 hb5 hM1 h45 hb7 ho
    (try clear hX6 h46 hb6 hC5)
    (try clear hsl hsr)
    generalize X2.heap.size = gn at hn7 ⊢
    go_loopg [18, 99] L.length (fun gg v18 v99 wr => ∃ (j : Nat) (z : Bool), v18 = .bool z ∧ v99 = .int .i64 j ∧ j ≤ L.length ∧ L.length - j ≤ gg ∧ Aside0 ((L.take j).all (rdy l s o) = z) ∧ Aside0 (Below X7.heap.size X7 wr))
    case atStart => exact ⟨0, true, rfl, rfl, Nat.zero_le _, by omega, ⟨rfl⟩, ⟨Below.refl _ _⟩⟩
    case round =>
      obtain ⟨j, z, rfl, rfl, hj, hgg, hz, hB⟩ := hrel
      by_cases hlt : j < L.length
      · have hltz : (j : Int) < (L.length : Int) := by omega
        have hWr := Aside0.mk (below_step hW7.out hB.out)
        obtain ⟨ad, eA, hx0, hx1⟩ := at_T31 (Kd.C_below hC4.out hWr.out) (j : Int) (by omega) (by omega)
        cases eA
        simp only [Int.toNat_natCast] at hx0 hx1
        have htake : (L.take (j + 1)).all (rdy l s o) = (z && rdy l s o (rd_T31 L (j : Int))) := by
          rw [List.take_succ_eq_append_getElem hlt, List.all_append, hz.out]
          simp [rd_T31, hlt]
        generalize rd_T31 L (j : Int) = x at hx0 hx1 htake
        have hBx := Aside0.mk (below_alloc hB.out (.cells #[.int .i64 x.f0, .int .i64 x.f1] 31 (0, 0)))
        have CRx := CR_.out x.f0 x.f1 gn w.heap.size (w.heap.size + 1) _ (blk_below hn7.out hBx.out) (blk_below h67.out hBx.out) (blk_below h77.out hBx.out) (Kd.C_below hC2.out (below_step hW7.out hBx.out))
        rw [show readyB x.f0 x.f1 l.length s o = rdy l s o x from rfl] at CRx
        generalize rdy l s o x = q at CRx htake
        replace CRx := Aside0.mk CRx
        replace htake := Aside0.mk htake
        cases z with
        | false =>
          go_wp2
          go_roundg (L.length - (j + 1))
          case measure => omega
          case rel => exact ⟨j + 1, false, rfl, by go_num, by omega, by omega, ⟨by rw [htake.out]; rfl⟩, ⟨hBx.out⟩⟩
        | true =>
          go_wp2_with (go_at_fn 11; (refine CRx.out.mono ?_); rintro e Y ⟨rfl, hY⟩)
          go_roundg (L.length - (j + 1))
          case measure => omega
          case rel => exact ⟨j + 1, q, rfl, by go_num, by omega, by omega, ⟨by rw [htake.out]; rfl⟩, ⟨below_step hBx.out hY⟩⟩
      · have hjl : j = L.length := by omega
        subst hjl
        have hltz : ¬ (L.length : Int) < (L.length : Int) := by omega
        have hzT := hz.out
        rw [List.take_length, hT.out] at hzT
        subst hzT
        clear hz
        obtain ⟨xs, hxr, hxc⟩ := hP7.out
        replace hxr := Aside0.mk hxr
        replace hxc := Aside0.mk hxc
        go_wp2
        clear hP7 CR_ eg hltz hgg hj
        go_loopg [134] L.length (fun gg v134 wr => ∃ j : Nat, v134 = .int .i64 j ∧ j ≤ L.length ∧ L.length - j ≤ gg ∧ Aside0 (Below X7.heap.size X7 wr))
        case atStart => exact ⟨0, rfl, Nat.zero_le _, by omega, hB⟩
        case round =>
          obtain ⟨j, rfl, hj, hgg, hB⟩ := hrel
          by_cases hlt : j < L.length
          · have hltz : (j : Int) < (L.length : Int) := by omega
            have hWr := Aside0.mk (below_step hW7.out hB.out)
            obtain ⟨ad, eA, hx0, hx1⟩ := at_T31 (Kd.C_below hC4.out hWr.out) (j : Int) (by omega) (by omega)
            cases eA
            simp only [Int.toNat_natCast] at hx0 hx1
            have hget : L[j]? = some (rd_T31 L (j : Int)) := by simp [rd_T31, hlt]
            have hrx : rdy l s o (rd_T31 L (j : Int)) = true := List.all_eq_true.1 hT.out _ (List.mem_of_getElem? hget)
            generalize rd_T31 L (j : Int) = x at hx0 hx1 hget hrx
            obtain ⟨hy0, hy1, hy2⟩ := ready_in hrx
            obtain ⟨u, hu0, hu1, hu2, hu3⟩ := hxc.out.at_ j (x, cutL l x.f0 x.f1) (by rw [List.getElem?_map, hget]; rfl)
            obtain ⟨g, cap, hform, hgb, hgl⟩ := hxr.out.form (by rw [List.length_map]; omega)
            simp only [Value.slice.injEq] at hform
            obtain ⟨hA7, hq1, hq2⟩ := hform
            clear hq1 hq2
            subst hA7
            have hp0 := (hB.out.cell (World.block_lt_of_cell? X7 _ (hxr.out.cells (g := g) rfl _ _ hu0))).trans (hxr.out.cells (g := g) rfl _ _ hu0)
            have hp1 := (hB.out.cell (World.block_lt_of_cell? X7 _ (hxr.out.cells (g := g) rfl _ _ hu1))).trans (hxr.out.cells (g := g) rfl _ _ hu1)
            have hp2 := (hB.out.cell (World.block_lt_of_cell? X7 _ (hxr.out.cells (g := g) rfl _ _ hu2))).trans (hxr.out.cells (g := g) rfl _ _ hu2)
            rw [Nat.mul_comm 3 j] at hp0 hp1 hp2
            rw [add_plain] at hp0 hp1 hp2
            obtain ⟨A8, hsl8, hsr8, hcap8⟩ := print_mid_int (k := .u8) 22 5 Try.underlying22 hi5 hi5z.2.1 A c l x.f0 x.f1 hy0 hy1 hy2 hc
            have hyl8 : ((l.take x.f1.toNat).drop x.f0.toNat).length ≤ 100000 := by rw [List.length_drop, List.length_take]; omega
            have hu3' : X7.ownsRow _ 5 1 u ((l.take x.f1.toNat).drop x.f0.toNat).length (nums .u8 ((l.take x.f1.toNat).drop x.f0.toNat)) := hu3
            clear hu3 hu0 hu1 hu2 hgl hgb
            generalize (l.take x.f1.toNat).drop x.f0.toNat = y8 at hsl8 hsr8 hcap8 hyl8 hu3'
            obtain ⟨A9, c9, rfl, hl9, hC9⟩ := own_row hu3'
            replace hC9 := Aside0.mk (Kd.C_below hC9 hB.out)
            replace hsr8 := Aside0.mk hsr8
            clear hu3'
            have hZ := Aside0.mk (below_alloc (Below.refl _ wr) (.cells #[.int .i64 x.f0, .int .i64 x.f1, .slice A9 y8.length c9] 44 (0, 0)))
            have hZn := Aside0.mk (blk_new wr (.cells #[.int .i64 x.f0, .int .i64 x.f1, .slice A9 y8.length c9] 44 (0, 0)))
            clear hget hrx hy0 hy1 hy2
            replace hyl8 := Aside0.mk hyl8
            replace hcap8 := Aside0.mk hcap8
            replace hl9 := Aside0.mk hl9
            go_wp2
            rename_i Kz hKz
            replace hKz := Aside0.mk hKz
            replace hx0 := hZ.out.cell (World.block_lt_of_cell? wr _ hx0) |>.trans hx0
            replace hx1 := hZ.out.cell (World.block_lt_of_cell? wr _ hx1) |>.trans hx1
            clear hp0 hp1 hp2
            generalize hgp : wr.heap.size = gp at hZn ⊢
            obtain ⟨Z, hZe⟩ : ∃ Z, wr.alloc (.cells #[.int .i64 x.f0, .int .i64 x.f1, .slice A9 y8.length c9] 44 (0, 0)) = Z := ⟨_, rfl⟩
            rw [hZe] at hZ hZn hx0 hx1 ⊢
            clear hZe
            have hZ' : Aside0 (Below wr.heap.size wr Z) := hZ
            clear hZ hgp
            have hS0 : ∀ X, Below Z.heap.size Z X → X.cell? ⟨gp, 0, none⟩ = some (.int .i64 x.f0) := fun X h => (blk_cell (blk_below hZn.out h) 0).trans rfl
            have hS1 : ∀ X, Below Z.heap.size Z X → X.cell? ⟨gp, 1, none⟩ = some (.int .i64 x.f1) := fun X h => (blk_cell (blk_below hZn.out h) 1).trans rfl
            have hS2 : ∀ X, Below Z.heap.size Z X → X.cell? ⟨gp, 2, none⟩ = some (.slice A9 y8.length c9) := fun X h => (blk_cell (blk_below hZn.out h) 2).trans rfl
            have hS3 : ∀ X, Below Z.heap.size Z X → X.cell? (ad.add (j * 2)) = some (.int .i64 x.f0) := fun X h => (h.cell (World.block_lt_of_cell? Z _ hx0)).trans hx0
            have hS4 : ∀ X, Below Z.heap.size Z X → X.cell? ⟨(ad.add (j * 2)).block, (ad.add (j * 2)).off + 1, none⟩ = some (.int .i64 x.f1) := fun X h => (h.cell (World.block_lt_of_cell? Z _ hx1)).trans hx1
            clear hx0 hx1
            have hX : Below Z.heap.size Z Z := Below.refl _ _
            refine wp_region_noPanic ?_
            refine wp_region_held_drew (S := fun X => Below Z.heap.size Z X) (by kernel_rfl) (below_drew hX) (fun hHeld => ?_)
            replace hX := Aside0.mk (below_drew hX)
            refine wpAnyH_take (i := 0) (oi := { dst := some 139, op := Go.Op.fieldAddr 44 (Go.Operand.tmp 22) 0, type := 0, pos := "law.go:63", after := #[], guard := none }) (v := ?_) rfl (by kernel_rfl) (by kernel_rfl) (by kernel_rfl) (fun _ _ _ h => h) (Or.inl ⟨by kernel_rfl, ?_⟩) (by assumption) ?_
            rotate_left
            · intro W hSw; go_simp; first | done | with_reducible rfl
            try simp only [Act.put, List.setIfInBounds_toArray, List.set_cons_zero, List.set_cons_succ]
            refine wpAnyH_take (i := 1) (oi := { dst := some 140, op := Go.Op.load 31 (Go.Operand.tmp 139), type := 31, pos := "law.go:63", after := #[{ on := 0, ground := Go.Ground.data }], guard := none }) (v := ?_) rfl (by kernel_rfl) (by kernel_rfl) (by kernel_rfl) (fun _ _ _ h => h) (Or.inl ⟨by kernel_rfl, ?_⟩) (by assumption) ?_
            rotate_left
            · intro W hSw; go_simp; first | done | with_reducible rfl
            try simp only [Act.put, List.setIfInBounds_toArray, List.set_cons_zero, List.set_cons_succ]
            refine wpAnyH_take (i := 2) (oi := { dst := some 141, op := Go.Op.move (Go.Operand.tmp 4), type := 35, pos := "law.go:63", after := #[], guard := none }) (v := ?_) rfl (by kernel_rfl) (by kernel_rfl) (by kernel_rfl) (fun _ _ _ h => h) (Or.inl ⟨by kernel_rfl, ?_⟩) (by assumption) ?_
            rotate_left
            · intro W hSw; go_simp; first | done | with_reducible rfl
            try simp only [Act.put, List.setIfInBounds_toArray, List.set_cons_zero, List.set_cons_succ]
            refine wpAnyH_take (i := 3) (oi := { dst := some 142, op := Go.Op.move (Go.Operand.tmp 21), type := 3, pos := "law.go:63", after := #[], guard := none }) (v := ?_) rfl (by kernel_rfl) (by kernel_rfl) (by kernel_rfl) (fun _ _ _ h => h) (Or.inl ⟨by kernel_rfl, ?_⟩) (by assumption) ?_
            rotate_left
            · intro W hSw; go_simp; first | done | with_reducible rfl
            try simp only [Act.put, List.setIfInBounds_toArray, List.set_cons_zero, List.set_cons_succ]
            refine wpAnyH_take (i := 4) (oi := { dst := some 143, op := Go.Op.indexAddr 35 (Go.Operand.tmp 141) (Go.Operand.tmp 142), type := 0, pos := "law.go:63", after := #[{ on := 2, ground := Go.Ground.data }, { on := 3, ground := Go.Ground.data }], guard := none }) (v := ?_) rfl (by kernel_rfl) (by kernel_rfl) (by kernel_rfl) (fun _ _ _ h => h) (Or.inl ⟨by kernel_rfl, ?_⟩) (by assumption) ?_
            rotate_left
            · intro W hSw; go_simp; first | done | with_reducible rfl
            try simp only [Act.put, List.setIfInBounds_toArray, List.set_cons_zero, List.set_cons_succ]
            refine wpAnyH_take (i := 5) (oi := { dst := some 144, op := Go.Op.load 31 (Go.Operand.tmp 143), type := 31, pos := "law.go:63", after := #[{ on := 4, ground := Go.Ground.data }], guard := none }) (v := ?_) rfl (by kernel_rfl) (by kernel_rfl) (by kernel_rfl) (fun _ _ _ h => h) (Or.inl ⟨by kernel_rfl, ?_⟩) (by assumption) ?_
            rotate_left
            · intro W hSw; go_simp; first | done | with_reducible rfl
            try simp only [Act.put, List.setIfInBounds_toArray, List.set_cons_zero, List.set_cons_succ]
            refine wpAnyH_take (i := 6) (oi := { dst := some 145, op := Go.Op.binOp Go.BinOp.neq 31 (Go.Operand.tmp 140) (Go.Operand.tmp 144) 31, type := 4, pos := "law.go:63", after := #[{ on := 1, ground := Go.Ground.data }, { on := 5, ground := Go.Ground.data }], guard := none }) (v := ?_) rfl (by kernel_rfl) (by kernel_rfl) (by kernel_rfl) (fun _ _ _ h => h) (Or.inl ⟨by kernel_rfl, ?_⟩) (by assumption) ?_
            rotate_left
            · intro W hSw; go_simp; first | done | with_reducible rfl
            try simp only [Act.put, List.setIfInBounds_toArray, List.set_cons_zero, List.set_cons_succ]
            refine wpAnyH_take (i := 7) (oi := { dst := some 146, op := Go.Op.move (Go.Operand.tmp 145), type := 4, pos := "law.go:63", after := #[{ on := 6, ground := Go.Ground.data }], guard := none }) (v := ?_) rfl (by kernel_rfl) (by kernel_rfl) (by kernel_rfl) (fun _ _ _ h => h) (Or.inl ⟨by kernel_rfl, ?_⟩) (by assumption) ?_
            rotate_left
            · intro W hSw; go_simp; first | done | with_reducible rfl
            try simp only [Act.put, List.setIfInBounds_toArray, List.set_cons_zero, List.set_cons_succ]
            refine wpAnyH_take (i := 8) (oi := { dst := some 147, op := Go.Op.fieldAddr 44 (Go.Operand.tmp 22) 1, type := 0, pos := "law.go:63", after := #[{ on := 7, ground := Go.Ground.guard }], guard := some (7, false) }) (v := ?_) rfl (by kernel_rfl) (by kernel_rfl) (by kernel_rfl) (fun _ _ _ h => h) (Or.inl ⟨by kernel_rfl, ?_⟩) (by assumption) ?_
            rotate_left
            · intro W hSw; go_simp; first | done | with_reducible rfl
            try simp only [Act.put, List.setIfInBounds_toArray, List.set_cons_zero, List.set_cons_succ]
            refine wpAnyH_take (i := 9) (oi := { dst := some 148, op := Go.Op.load 22 (Go.Operand.tmp 147), type := 22, pos := "law.go:63", after := #[{ on := 8, ground := Go.Ground.data }, { on := 7, ground := Go.Ground.guard }], guard := some (7, false) }) (v := ?_) rfl (by kernel_rfl) (by kernel_rfl) (by kernel_rfl) (fun _ _ _ h => h) (Or.inl ⟨by kernel_rfl, ?_⟩) (by assumption) ?_
            rotate_left
            · intro W hSw; go_simp; first | done | with_reducible rfl
            try simp only [Act.put, List.setIfInBounds_toArray, List.set_cons_zero, List.set_cons_succ]
            refine wpAnyH_take (i := 10) (oi := { dst := some 149, op := Go.Op.move (Go.Operand.tmp 0), type := 22, pos := "law.go:63", after := #[{ on := 7, ground := Go.Ground.guard }], guard := some (7, false) }) (v := ?_) rfl (by kernel_rfl) (by kernel_rfl) (by kernel_rfl) (fun _ _ _ h => h) (Or.inl ⟨by kernel_rfl, ?_⟩) (by assumption) ?_
            rotate_left
            · intro W hSw; go_simp; first | done | with_reducible rfl
            try simp only [Act.put, List.setIfInBounds_toArray, List.set_cons_zero, List.set_cons_succ]
            refine wpAnyH_take (i := 11) (oi := { dst := some 150, op := Go.Op.move (Go.Operand.tmp 4), type := 35, pos := "law.go:63", after := #[{ on := 7, ground := Go.Ground.guard }], guard := some (7, false) }) (v := ?_) rfl (by kernel_rfl) (by kernel_rfl) (by kernel_rfl) (fun _ _ _ h => h) (Or.inl ⟨by kernel_rfl, ?_⟩) (by assumption) ?_
            rotate_left
            · intro W hSw; go_simp; first | done | with_reducible rfl
            try simp only [Act.put, List.setIfInBounds_toArray, List.set_cons_zero, List.set_cons_succ]
            refine wpAnyH_take (i := 12) (oi := { dst := some 151, op := Go.Op.move (Go.Operand.tmp 21), type := 3, pos := "law.go:63", after := #[{ on := 7, ground := Go.Ground.guard }], guard := some (7, false) }) (v := ?_) rfl (by kernel_rfl) (by kernel_rfl) (by kernel_rfl) (fun _ _ _ h => h) (Or.inl ⟨by kernel_rfl, ?_⟩) (by assumption) ?_
            rotate_left
            · intro W hSw; go_simp; first | done | with_reducible rfl
            try simp only [Act.put, List.setIfInBounds_toArray, List.set_cons_zero, List.set_cons_succ]
            refine wpAnyH_take (i := 13) (oi := { dst := some 152, op := Go.Op.indexAddr 35 (Go.Operand.tmp 150) (Go.Operand.tmp 151), type := 0, pos := "law.go:63", after := #[{ on := 11, ground := Go.Ground.data }, { on := 12, ground := Go.Ground.data }, { on := 7, ground := Go.Ground.guard }], guard := some (7, false) }) (v := ?_) rfl (by kernel_rfl) (by kernel_rfl) (by kernel_rfl) (fun _ _ _ h => h) (Or.inl ⟨by kernel_rfl, ?_⟩) (by assumption) ?_
            rotate_left
            · intro W hSw; go_simp; first | done | with_reducible rfl
            try simp only [Act.put, List.setIfInBounds_toArray, List.set_cons_zero, List.set_cons_succ]
            refine wpAnyH_take (i := 14) (oi := { dst := some 153, op := Go.Op.fieldAddr 31 (Go.Operand.tmp 152) 0, type := 0, pos := "law.go:63", after := #[{ on := 13, ground := Go.Ground.data }, { on := 7, ground := Go.Ground.guard }], guard := some (7, false) }) (v := ?_) rfl (by kernel_rfl) (by kernel_rfl) (by kernel_rfl) (fun _ _ _ h => h) (Or.inl ⟨by kernel_rfl, ?_⟩) (by assumption) ?_
            rotate_left
            · intro W hSw; go_simp; first | done | with_reducible rfl
            try simp only [Act.put, List.setIfInBounds_toArray, List.set_cons_zero, List.set_cons_succ]
            refine wpAnyH_take (i := 15) (oi := { dst := some 154, op := Go.Op.load 3 (Go.Operand.tmp 153), type := 3, pos := "law.go:63", after := #[{ on := 14, ground := Go.Ground.data }, { on := 7, ground := Go.Ground.guard }], guard := some (7, false) }) (v := ?_) rfl (by kernel_rfl) (by kernel_rfl) (by kernel_rfl) (fun _ _ _ h => h) (Or.inl ⟨by kernel_rfl, ?_⟩) (by assumption) ?_
            rotate_left
            · intro W hSw; go_simp; first | done | with_reducible rfl
            try simp only [Act.put, List.setIfInBounds_toArray, List.set_cons_zero, List.set_cons_succ]
            refine wpAnyH_take (i := 16) (oi := { dst := some 155, op := Go.Op.move (Go.Operand.tmp 4), type := 35, pos := "law.go:63", after := #[{ on := 7, ground := Go.Ground.guard }], guard := some (7, false) }) (v := ?_) rfl (by kernel_rfl) (by kernel_rfl) (by kernel_rfl) (fun _ _ _ h => h) (Or.inl ⟨by kernel_rfl, ?_⟩) (by assumption) ?_
            rotate_left
            · intro W hSw; go_simp; first | done | with_reducible rfl
            try simp only [Act.put, List.setIfInBounds_toArray, List.set_cons_zero, List.set_cons_succ]
            refine wpAnyH_take (i := 17) (oi := { dst := some 156, op := Go.Op.move (Go.Operand.tmp 21), type := 3, pos := "law.go:63", after := #[{ on := 7, ground := Go.Ground.guard }], guard := some (7, false) }) (v := ?_) rfl (by kernel_rfl) (by kernel_rfl) (by kernel_rfl) (fun _ _ _ h => h) (Or.inl ⟨by kernel_rfl, ?_⟩) (by assumption) ?_
            rotate_left
            · intro W hSw; go_simp; first | done | with_reducible rfl
            try simp only [Act.put, List.setIfInBounds_toArray, List.set_cons_zero, List.set_cons_succ]
            refine wpAnyH_take (i := 18) (oi := { dst := some 157, op := Go.Op.indexAddr 35 (Go.Operand.tmp 155) (Go.Operand.tmp 156), type := 0, pos := "law.go:63", after := #[{ on := 16, ground := Go.Ground.data }, { on := 17, ground := Go.Ground.data }, { on := 7, ground := Go.Ground.guard }], guard := some (7, false) }) (v := ?_) rfl (by kernel_rfl) (by kernel_rfl) (by kernel_rfl) (fun _ _ _ h => h) (Or.inl ⟨by kernel_rfl, ?_⟩) (by assumption) ?_
            rotate_left
            · intro W hSw; go_simp; first | done | with_reducible rfl
            try simp only [Act.put, List.setIfInBounds_toArray, List.set_cons_zero, List.set_cons_succ]
            refine wpAnyH_take (i := 19) (oi := { dst := some 158, op := Go.Op.fieldAddr 31 (Go.Operand.tmp 157) 1, type := 0, pos := "law.go:63", after := #[{ on := 18, ground := Go.Ground.data }, { on := 7, ground := Go.Ground.guard }], guard := some (7, false) }) (v := ?_) rfl (by kernel_rfl) (by kernel_rfl) (by kernel_rfl) (fun _ _ _ h => h) (Or.inl ⟨by kernel_rfl, ?_⟩) (by assumption) ?_
            rotate_left
            · intro W hSw; go_simp; first | done | with_reducible rfl
            try simp only [Act.put, List.setIfInBounds_toArray, List.set_cons_zero, List.set_cons_succ]
            refine wpAnyH_take (i := 20) (oi := { dst := some 159, op := Go.Op.load 3 (Go.Operand.tmp 158), type := 3, pos := "law.go:63", after := #[{ on := 19, ground := Go.Ground.data }, { on := 7, ground := Go.Ground.guard }], guard := some (7, false) }) (v := ?_) rfl (by kernel_rfl) (by kernel_rfl) (by kernel_rfl) (fun _ _ _ h => h) (Or.inl ⟨by kernel_rfl, ?_⟩) (by assumption) ?_
            rotate_left
            · intro W hSw; go_simp; first | done | with_reducible rfl
            try simp only [Act.put, List.setIfInBounds_toArray, List.set_cons_zero, List.set_cons_succ]
            refine wpAnyH_take (i := 21) (oi := { dst := some 160, op := Go.Op.slice 22 (Go.Operand.tmp 149) (some (Go.Operand.tmp 154)) (some (Go.Operand.tmp 159)) none, type := 22, pos := "law.go:63", after := #[{ on := 10, ground := Go.Ground.data }, { on := 15, ground := Go.Ground.data }, { on := 20, ground := Go.Ground.data }, { on := 7, ground := Go.Ground.guard }], guard := some (7, false) }) (v := ?_) rfl (by kernel_rfl) (by kernel_rfl) (by kernel_rfl) (fun _ _ _ h => h) (Or.inl ⟨by kernel_rfl, ?_⟩) (by assumption) ?_
            rotate_left
            · intro W hSw; go_simp; first | done | with_reducible rfl
            try simp only [Act.put, List.setIfInBounds_toArray, List.set_cons_zero, List.set_cons_succ]
            refine wpAnyH_ready (rs := [22]) (by kernel_rfl) (by simp) ?_
            refine AllReadyH.cons (o := { dst := some 161, op := Go.Op.call { callee := Go.Callee.value (Go.Operand.func 10), args := #[Go.Operand.tmp 148, Go.Operand.tmp 160], argTypes := #[22, 22] }, type := 4, pos := "law.go:63", after := #[{ on := 9, ground := Go.Ground.data }, { on := 21, ground := Go.Ground.data }, { on := 7, ground := Go.Ground.chain }, { on := 7, ground := Go.Ground.guard }], guard := some (7, false) }) rfl (fun K hK => ?_) AllReadyH.nil
            refine goes_ (N := some 161) («as» := #[.tmp 148, .tmp 160]) Try.func10 (by kernel_rfl) rfl #[.slice A9 y8.length c9, .slice A8 y8.length (c - x.f0.toNat)] (by kernel_rfl) rfl rfl (by kernel_rfl) ?_
            refine (CBy.out A9 c9 A8 _ y8 hyl8.out _ (Kd.C_below hC9.out (below_step hZ'.out hX.out)) hl9.out (Kd.C_of_reads (d := (0 : Int)) (hsr8.out _ (Kd.reads_of_C (d := (0 : Int)) (Kd.C_below hC.out (below_step (below_step hWr.out hZ'.out) hX.out))))) hcap8.out).mono ?_
            rintro e Y ⟨rfl, hb⟩
            refine ⟨_, rfl, ?_⟩
            replace hX := Aside0.mk (below_step hX.out hb.below)
            clear hb
            refine hK.out _ _ ?_ (fun hHeld => ?_)
            · exact hX.out
            clear hK K
            try simp only [Act.put, List.setIfInBounds_toArray, List.set_cons_zero, List.set_cons_succ]
            refine wpAnyH_take (i := 23) (oi := { dst := some 162, op := Go.Op.unOp Go.UnOp.not 4 (Go.Operand.tmp 161), type := 4, pos := "law.go:63", after := #[{ on := 22, ground := Go.Ground.data }, { on := 7, ground := Go.Ground.guard }], guard := some (7, false) }) (v := ?_) rfl (by kernel_rfl) (by kernel_rfl) (by kernel_rfl) (fun _ _ _ h => h) (Or.inl ⟨by kernel_rfl, ?_⟩) (by assumption) ?_
            rotate_left
            · intro W hSw; go_simp; first | done | with_reducible rfl
            try simp only [Act.put, List.setIfInBounds_toArray, List.set_cons_zero, List.set_cons_succ]
            refine wpAnyH_take (i := 24) (oi := { dst := some 163, op := Go.Op.pick (Go.Operand.tmp 146) (Go.Operand.const (Go.Value.bool true)) (Go.Operand.tmp 162), type := 4, pos := "law.go:63", after := #[{ on := 7, ground := Go.Ground.data }, { on := 23, ground := Go.Ground.data }], guard := none }) (v := ?_) rfl (by kernel_rfl) (by kernel_rfl) (by kernel_rfl) (fun _ _ _ h => h) (Or.inl ⟨by kernel_rfl, ?_⟩) (by assumption) ?_
            rotate_left
            · intro W hSw; go_simp; first | done | with_reducible rfl
            try simp only [Act.put, List.setIfInBounds_toArray, List.set_cons_zero, List.set_cons_succ]
            refine wpAnyH_done (by kernel_rfl) ?_ _
            try simp only [Act.put, List.setIfInBounds_toArray, List.set_cons_zero, List.set_cons_succ, List.getElem_toArray, List.getElem_cons_zero, List.getElem_cons_succ]
            refine NoPanic.normal ?_
            (try dsimp only [Exit.then])
            refine hKz.out _ _ ?_
            clear hHeld hS0 hS1 hS2 hS3 hS4
            go_wp2
            go_roundg (L.length - (j + 1))
            case measure => omega
            case rel => exact ⟨j + 1, by go_num, by omega, by omega, ⟨below_step (below_step hB.out hZ'.out) hX.out⟩⟩
          · have hjl : j = L.length := by omega
            subst hjl
            have hltz : ¬ (L.length : Int) < (L.length : Int) := by omega
            go_wp2
            go_ret
            exact ⟨rfl, below_step hW7.out hB.out⟩
end Go.Proofs.Ytiecjkkjcdjndaa.Asm
namespace Go.Proofs.Ytiecjkkjcdjndaa.PAll
open Go.RowKit Go.Proofs.Ytiecjkkjcdjndaa.Xw Go.Proofs.YtiecjkkjcdjndaaW.PrintWords Go.Proofs.YtiecjkkjcdjndaaW.PrintLast Go.Proofs.YtiecjkkjcdjndaaW.PrintMore
theorem spencelaw37_AssembleBodies.calls (A0 : Option Addr) (c0 : Nat) (l0 : List Int) (a1 : Int) (A2 : Option Addr) (c2 : Nat) (l2 : List Int) (a3 b3 : Int) (A4 : Option Addr) (c4 : Nat) (l4 : List S31) (r : Bool) (w : World) (hr0 : Kd.C (Kd.int .u8) w A0 l0.length l0) (hc0 : l0.length ≤ c0) (hr2 : Kd.C (Kd.int .i64) w A2 l2.length l2) (hc2 : l2.length ≤ c2) (hr4 : Kd.C k31 w A4 l4.length l4) (_ : l4.length ≤ c4) (h : spencelaw37_AssembleBodies.f l0 a1 l2 a3 b3 l4 = some r) :
    Calls Try.prog 4 #[.slice A0 l0.length c0, .int .i64 a1, .slice A2 l2.length c2, .agg #[.int .i64 a3, .int .i64 b3], .slice A4 l4.length c4] w fun e w' => e = .returned (.bool r) ∧ Below w.heap.size w w' := by
  obtain rfl := Option.some.inj h
  exact Asm.bodies_law A0 c0 l0 a1 A2 c2 l2 a3 b3 A4 c4 l4 w hr0 hc0 hr2 hc2 hr4
end Go.Proofs.Ytiecjkkjcdjndaa.PAll
namespace Go.Proofs.Ytiecjkkjcdjndaa.Pure
open Go.Proofs.Ytiecjkkjcdjndaa.PAll
theorem AssembleBodies (l0 : List Int) (a1 : Int) (l2 : List Int) (a3 b3 : Int) (l4 : List S31) (_ : l0.length * 1 ≤ 140737488351232) (_ : ∀ x ∈ l0, (Lit.int .u8 x).wf = true) (_ : (Lit.int .i64 a1).wf = true) (_ : l2.length * 8 ≤ 140737488351232) (_ : ∀ x ∈ l2, (Lit.int .i64 x).wf = true) (_ : (Lit.int .i64 a3).wf = true) (_ : (Lit.int .i64 b3).wf = true)
    (_ : l4.length * 16 ≤ 140737488351232) (_ : ∀ x ∈ l4, (Lit.int .i64 x.f0).wf = true ∧ (Lit.int .i64 x.f1).wf = true) : spencelaw37_AssembleBodies.f l0 a1 l2 a3 b3 l4 = some true := rfl
end Go.Proofs.Ytiecjkkjcdjndaa.Pure
namespace Go.Proofs.Ytiecjkkjcdjndaa.assembleBodies
open Go.ChangeShapes Go.WideShapes Go.ChangeAt Go.RowKit Go.Proofs.Ytiecjkkjcdjndaa.Rd Go.Proofs.Ytiecjkkjcdjndaa.PAll Go.Proofs.YtiecjkkjcdjndaaW.PrintWords
open Go.ChangeMaps (open_string shut_string)
set_option linter.unusedVariables false
theorem own : ownKnob Try.prog.godebug = none := by kernel_rfl
theorem laidOut : laidOutB Try.prog = true := by kernel_rfl
def ok31 (x : S31) : Prop := (Lit.int .i64 x.f0).wf = true ∧ (Lit.int .i64 x.f1).wf = true
theorem o31 : Opens Try.prog 31 k31 ok31 := opens_struct Try.underlying31 (opensF_cons (opens_int Try.underlying3) rfl (by kernel_rfl) rfl (opensF_one (opens_int Try.underlying3) rfl (by kernel_rfl))) (by kernel_rfl) (fun x : S31 => (x.f0, x.f1)) (fun p => ⟨p.1, p.2⟩) (fun _ => rfl)
set_option maxRecDepth 100000 in
set_option maxHeartbeats 4000000 in
theorem lifted (os : Os) (started : os.Started) (H : Type) (enc : TypeId × Value → H) :
    ReturnsInHanded {} Try.checked os 4 .any (Rows.assembleBodiesSpec.pre6 enc Try.prog Try.f4 Rows.assembleBodiesRow.domain false) (Rows.assembleBodiesSpec.post enc Try.prog Try.f4 false true false false) := by
  refine returnsInHanded_of_change_sized (C := Try.checked) own started (by kernel_rfl) Try.func4
    (ChangeSpec.witness6 (enc := enc) (C := Try.checked) false ⟨#[], #[.slice none 0 0, .int .i64 0, .slice none 0 0, .agg #[.int .i64 0, .int .i64 0], .slice none 0 0], []⟩ 8 (by kernel_rfl) (by kernel_rfl) (by kernel_rfl) (by kernel_rfl)) ?_
  intro W base args ds gs before hval0 hW hcnd hsz0 _
  have hsz : (DataW.weightsEach Try.prog (Try.f4.params.toList ++ Rows.assembleBodiesSpec.plain.varTypes Try.prog) (ds ++ gs)).all (· ≤ reachBytes) = true := hsz0
  have hval : ∀ (j : Nat) t v, Try.f4.params[j]? = some t → args[j]? = some v → Value.okWide Try.prog W .any base t v := hval0
  have hW' := hW
  obtain ⟨p, q, hA0, hV, rfl, hfz, hnd⟩ := hW
  have hA : DataW.TrodAll enc Try.prog W 0 (fun _ => true) true Try.f4.params.toList args.toList ds p := hA0
  rw [Try.params4] at hA hval hsz
  obtain ⟨v0, vs0, d0, ds0, p0, q0, hargs, rfl, rfl, h0, r0⟩ := trodAll_cons hA
  obtain ⟨v1, vs1, d1, ds1, p1, q1, rfl, rfl, rfl, h1, r1⟩ := trodAll_cons r0
  obtain ⟨v2, vs2, d2, ds2, p2, q2, rfl, rfl, rfl, h2, r2⟩ := trodAll_cons r1
  obtain ⟨v3, vs3, d3, ds3, p3, q3, rfl, rfl, rfl, h3, r3⟩ := trodAll_cons r2
  obtain ⟨v4, vs4, d4, ds4, p4, q4, rfl, rfl, rfl, h4, r4⟩ := trodAll_cons r3
  obtain ⟨rfl, rfl, rfl⟩ := trodAll_nil r4
  obtain rfl : args = #[v0, v1, v2, v3, v4] := by cases args; simp_all
  obtain ⟨rfl, rfl⟩ := trodVars_none hV
  have k0 := h0
  have lt0 : ∀ x ∈ p0, x.block < W.heap.size := by obtain ⟨m, hm⟩ := k0; exact DataW.trod_lt m _ _ _ hm
  have k1 := h1
  have lt1 : ∀ x ∈ p1, x.block < W.heap.size := by obtain ⟨m, hm⟩ := k1; exact DataW.trod_lt m _ _ _ hm
  have k2 := h2
  have lt2 : ∀ x ∈ p2, x.block < W.heap.size := by obtain ⟨m, hm⟩ := k2; exact DataW.trod_lt m _ _ _ hm
  have k3 := h3
  have lt3 : ∀ x ∈ p3, x.block < W.heap.size := by obtain ⟨m, hm⟩ := k3; exact DataW.trod_lt m _ _ _ hm
  have k4 := h4
  have lt4 : ∀ x ∈ p4, x.block < W.heap.size := by obtain ⟨m, hm⟩ := k4; exact DataW.trod_lt m _ _ _ hm
  obtain ⟨A0, c0, l0, rfl, hc0, hC0, hok0, hb0⟩ := open_row Try.underlying22 (opens_int Try.underlying5) (by kernel_rfl) (hval 0 22 v0 rfl rfl) h0 hsz (j := 0) rfl rfl (B := 1) (by kernel_rfl)
  obtain ⟨a1, rfl, rfl, rfl, w1⟩ := open_int Try.underlying3 (hval 1 3 v1 rfl rfl) h1
  obtain ⟨A2, c2, l2, rfl, hc2, hC2, hok2, hb2⟩ := open_row Try.underlying29 (opens_int Try.underlying3) (by kernel_rfl) (hval 2 29 v2 rfl rfl) h2 hsz (j := 2) rfl rfl (B := 8) (by kernel_rfl)
  obtain ⟨L3, x3, rfl, hK3, hok3⟩ := open_agg Try.underlying31 o31 (hval 3 31 v3 rfl rfl) h3
  obtain rfl := k31_open hK3
  obtain ⟨A4, c4, l4, rfl, hc4, hC4, hok4, hb4⟩ := open_row Try.underlying35 o31 (by kernel_rfl) (hval 4 35 v4 rfl rfl) h4 hsz (j := 4) rfl rfl (B := 16) (by kernel_rfl)
  clear hA0 hval0 hsz0 hsz
  have hk := Pure.AssembleBodies l0 a1 l2 x3.f0 x3.f1 l4 hb0 hok0 w1 hb2 hok2 (hok3.1) (hok3.2) hb4 hok4
  refine (PAll.spencelaw37_AssembleBodies.calls _ _ l0 a1 _ _ l2 x3.f0 x3.f1 _ _ l4 true W hC0 hc0 hC2 hc2 hC4 hc4 hk).mono fun e W' ⟨he, hd⟩ => ?_
  have bel : Below W.heap.size W W' := hd
  subst he
  exact ⟨_, rfl, _, _, _, [], _, [], hW', trodAll_mk1 (shut_bool Try.underlying4 _), (trodAll_cons_mk (Below.trod laidOut (by kernel_rfl) (of_decide_eq_true (by kernel_rfl)) k0 bel lt0) (trodAll_cons_mk (shut_int Try.underlying3 w1) (trodAll_cons_mk (Below.trod laidOut (by kernel_rfl) (of_decide_eq_true (by kernel_rfl)) k2 bel lt2) (trodAll_cons_mk (Below.trod laidOut (by kernel_rfl) (of_decide_eq_true (by kernel_rfl)) k3 bel lt3) (trodAll_cons_mk (Below.trod laidOut (by kernel_rfl) (of_decide_eq_true (by kernel_rfl)) k4 bel lt4) trodAll_mk0))))), rfl, bel.frame _, fun h => by cases h⟩
theorem over : Rows.assembleBodiesRow.holds Try.pinned (OpenSpec.ofChange Rows.assembleBodiesSpec) :=
  OpenClaim.holds_of_wide 4 Try.f4 rfl rfl rfl rfl rfl rfl rfl ⟨rfl, rfl, rfl, rfl, rfl⟩ rfl rfl rfl rfl rfl (by kernel_rfl) Try.func4 (by kernel_rfl)
    (of_decide_eq_true (by kernel_rfl)) (by unfold Func.isWrapper; first | (rw [if_pos (by decide +kernel)]; kernel_rfl) | (rw [if_neg (by decide +kernel)]; exact ⟨rfl, rfl⟩))
    (fun os started H enc _ => lifted os started H enc)
theorem proved : Rows.AssembleBodiesSaid := over
end Go.Proofs.Ytiecjkkjcdjndaa.assembleBodies
namespace Go.Proofs.Ytiecjkkjcdjndaa
theorem assembleBodies_holds : Rows.AssembleBodiesSaid := assembleBodies.proved
#print axioms assembleBodies_holds
end Go.Proofs.Ytiecjkkjcdjndaa
