/- The law BitmapTells: for every input the call returns true, and each argument reads behind the call as it read before. No condition. (The row, and the plain law ahead of it.) -/
import Derived.Test.YtcnlmpjoghogbaaDoorKBitmapTells1
import Derived.Deep.RegionHeld3
import Derived.Deep.DrawnRows
import Derived.Test.YtcnlmpjoghogbaaDoorRows
import Derived.Test.YtcnlmpjoghogbaaDoorCards
import Derived.Test.YtcnlmpjoghogbaaDoorTie
import Derived.LaidMore
import Derived.Lay
import Derived.SevenTiedAt
import Derived.Stop.Joined
import Derived.WalkKit
import Derived.ProofKit
import Derived.OpenShut
import Derived.ShutString
import Derived.ChangeOld
import Derived.Below
import Derived.SizedLaws
namespace Go.Proofs.YtcnlmpjoghogbaaDoor.Ag
open Go.RowKit Go.Shelf Go.Proofs.YtcnlmpjoghogbaaDoor.Xw Go.Proofs.YtcnlmpjoghogbaaDoor.PAll Go.Proofs.YtcnlmpjoghogbaaDoorW.PrintWords Go.Proofs.YtcnlmpjoghogbaaDoorW.PrintLast Go.Proofs.YtcnlmpjoghogbaaDoorW.PrintMore
open Go.Proofs.YtcnlmpjoghogbaaDoor.Pure (awake18 in_ev sorted_any ints_ev)
attribute [local go_sem] Oper.semAt_some
attribute [local go_sem ↓] Go.wp_at_zero Go.wp_at_succ map_eql ldMap_eq
theorem awake18_any (w : World) : Calls Tryd.prog 9 #[] w fun e w' => e = .returned (.bool true) ∧ Below w.heap.size w w' := by
  obtain ⟨k, hk⟩ := awake18
  exact spencelaw18_awake.calls k true w (hk k (Nat.le_refl _))
theorem in_all (A : Option Addr) (c : Nat) (l : List Int) (x : Int) (hl : l.length ≤ 100000) (w : World) (hr : Kd.C (Kd.int .i64) w A l.length l) (hc : l.length ≤ c) :
    Calls Tryd.prog 13 #[.slice A l.length c, .int .i64 x] w fun e w' => e = .returned (.bool (decide (x ∈ l))) ∧ Drawn0 w w' := by
  obtain ⟨k, hk⟩ := in_ev l x hl
  exact spenceref01_In.calls k A c l x _ w hr hc (hk k (Nat.le_refl _))
/-- Behind the loop: what was laid lies, but the result's variable, when all is done. -/
def TlS (b : Nat) (we X' : World) : Prop := ∃ X, Below we.heap.size we X ∧ (X' = X ∨ X' = X.setCell ⟨b, 0, none⟩ (.bool true))
/-- A result that stands in a variable of one cell. -/
theorem results_one {P : Program} {fn : Func} {p : Tmp} {ty : TypeId} (h : fn.results = #[.cell p ty]) (tmps : Array Value) (w : World) (a : Addr) (v : Value) (hu : P.underlying ty = some .bool)
    (hp : tmps.getD p undef = .pointer (some a)) (hc : w.cell? a = some v) : (results fn tmps).run P w = .ok v w := by
  have hp' : tmps[p]?.getD undef = .pointer (some a) := by simpa using hp
  simp [results, h, hp', asAddr, loadVar, isAgg, run_underlying hu, run_load, hc]
set_option linter.unusedSimpArgs false in
set_option linter.unusedVariables false in
set_option maxRecDepth 100000 in
set_option maxHeartbeats 8000000 in
theorem tells_calls (A0 : Option Addr) (c0 : Nat) (l0 : List Int) (a1 a2 : Int) (w : World) (hr0 : Kd.C (Kd.int .i64) w A0 l0.length l0) (hc0 : l0.length ≤ c0) (hT : TabW w) :
    Calls Tryd.prog 3 #[.slice A0 l0.length c0, .int .i64 a1, .int .i64 a2] w fun e w' => e = .returned (.bool true) ∧ Below w.heap.size w w' := by
  have HR0 := Aside0.mk hr0
  have HT := Aside0.mk hT
  clear hr0 hT
  refine (callsIn_wide (n := 3)).1 ?_
  refine callsIn_of_wp_marks Tryd.func3 rfl trivial ?_ rfl
  simp only [Tryd.ntmps3, List.size_toArray, List.length_cons, List.length_nil, Nat.reduceAdd, Nat.reduceSub, Array.replicate_succ, Array.replicate_zero, List.push_toArray, List.append_toArray, List.nil_append, List.cons_append]
  refine wpIn_wide.2 ?_
  have K5 := blk_alloc (blk_new w (.cells #[.int .i64 a2] 3 (0, 0))) (.cells #[.bool false] 4 (0, 0))
  have K6 := blk_new (w.alloc (.cells #[.int .i64 a2] 3 (0, 0))) (.cells #[.bool false] 4 (0, 0))
  rw [alloc_size] at K6
  have HB := below_alloc (below_alloc (Below.refl w.heap.size w) (.cells #[.int .i64 a2] 3 (0, 0))) (.cells #[.bool false] 4 (0, 0))
  replace K5 := Aside0.mk K5
  replace K6 := Aside0.mk K6
  replace HB := Aside0.mk HB
  go_wp2_with (fail)
  refine (awake18_any _).mono ?_
  rintro e w1 ⟨rfl, hb⟩
  dsimp only
  have K5' := Aside0.mk (blk_below K5.out hb)
  have K6' := Aside0.mk (blk_below K6.out hb)
  have HB' := Aside0.mk (below_step HB.out hb)
  clear K5 K6 HB hb
  have hc6 : w1.cell? ⟨w.heap.size + 1, 0, none⟩ = some (.bool false) := (blk_cell K6'.out 0).trans rfl
  have hz6 := blk_frozen K6'.out 0
  by_cases d0 : (l0.length : Int) > 60
  · have d0' := decide_eq_true d0
    go_wp2_with (fail)
    exact ⟨_, results_one rfl _ _ ⟨w.heap.size + 1, 0, none⟩ _ Tryd.underlying4 rfl (World.cell?_setCell_same' _ _ _ (by rw [hc6]; rfl)), rfl, below_set HB'.out (by omega)⟩
  have d0' := decide_eq_false d0
  go_wp2_with (fail)
  refine (of_calls A0 c0 l0 _ (Kd.C_below HR0.out HB'.out) hc0).mono ?_
  rintro e w2 ⟨rfl, hb⟩
  dsimp only
  rw [show l0.foldl withF zeroF = ofF l0 from rfl]
  have K5 := Aside0.mk (blk_below K5'.out hb)
  have K6 := Aside0.mk (blk_below K6'.out hb)
  have HB := Aside0.mk (below_step HB'.out hb)
  clear K5' K6' HB' hb hc6 hz6
  have Z7 := Aside0.mk (blk_new w2 (.cells Tryd.zeroCells27 27 (0, 0)))
  go_wp2_with (first | ((with_reducible refine gate_store (t := 27) (p := 7) rfl ?_); refine row_store2 rfl 27 (.tmp 7) (.tmp 19) rfl rfl w2.heap.size rfl .u64 65 (ofF l0) rfl _ 27 Z7.out info_map (by rw [zero_map, agC_size]) ?_))
  have M7 := Aside0.mk (row_put (cells := agC .u64 65 (ofF l0)) Z7.out)
  have K5' := Aside0.mk (row_far (blk_alloc K5.out (.cells Tryd.zeroCells27 27 (0, 0))) (Nat.ne_of_lt (blk_lt K5.out)) (agC .u64 65 (ofF l0)))
  have K6' := Aside0.mk (row_far (blk_alloc K6.out (.cells Tryd.zeroCells27 27 (0, 0))) (Nat.ne_of_lt (blk_lt K6.out)) (agC .u64 65 (ofF l0)))
  have HB' := Aside0.mk (row_below (cells := agC .u64 65 (ofF l0)) (below_alloc HB.out (.cells Tryd.zeroCells27 27 (0, 0))) (below_size HB.out))
  generalize (w2.alloc (.cells Tryd.zeroCells27 27 (0, 0))).setRow w2.heap.size (agC .u64 65 (ofF l0)) = w3 at M7 K5' K6' HB' ⊢
  have hgt : w.heap.size + 1 < w2.heap.size := blk_lt K6.out
  clear K5 K6 HB Z7
  obtain ⟨g7, hg7⟩ : ∃ g7, w2.heap.size = g7 := ⟨_, rfl⟩
  rw [hg7] at M7 hgt ⊢
  clear hg7
  obtain ⟨ks, hks⟩ := sorted_any l0 (by omega)
  refine (spenceref24_Sorted.calls ks A0 c0 l0 _ w3 (Kd.C_below HR0.out HB'.out) hc0 (hks ks (Nat.le_refl _))).mono ?_
  rintro e w4 ⟨vs, rfl, hR, hb⟩
  dsimp only
  rw [← all_of] at hR
  have M7' := Aside0.mk (blk_below M7.out hb)
  have K5 := Aside0.mk (blk_below K5'.out hb)
  have K6 := Aside0.mk (blk_below K6'.out hb)
  have HB := Aside0.mk (below_step HB'.out hb)
  obtain ⟨As, cs, rfl, hcs, hCs⟩ := Kd.R_reads hR
  clear M7 K5' K6' HB' hb hR hks
  have hal := all_len (ofF l0)
  have hUf := of_U l0
  obtain ⟨xs, hxs⟩ : ∃ xs, allF (ofF l0) = xs := ⟨_, rfl⟩
  rw [hxs] at hCs hcs hal
  rw [hxs]
  have L7 := ldMap_run (blk_alloc (blk_alloc M7'.out (.cells #[.slice As xs.length cs] 22 (0, 0))) (.cells #[.int .i64 0] 3 (0, 0)))
  go_wp2_with (fail)
  refine (all_calls (ofF l0) _).mono ?_
  rintro e w' ⟨rfl, rfl⟩
  simp only [alloc_size]
  clear L7
  have bN : Boxed ((w4.alloc (.cells #[.slice As xs.length cs] 22 (0, 0))).alloc (.cells #[.int .i64 0] 3 (0, 0))) (w4.heap.size + 1) 3 (.int .i64 0) := by
    have := Boxed.new (w4.alloc (.cells #[.slice As xs.length cs] 22 (0, 0))) 3 (.int .i64 0)
    rw [alloc_size] at this
    exact this
  have bM : Holds (w4.heap.size + 1 + 1) (ofF l0) (((w4.alloc (.cells #[.slice As xs.length cs] 22 (0, 0))).alloc (.cells #[.int .i64 0] 3 (0, 0))).alloc (.cells (agC .u64 65 (ofF l0)) 27 (0, 0))) := by
    have := blk_new ((w4.alloc (.cells #[.slice As xs.length cs] 22 (0, 0))).alloc (.cells #[.int .i64 0] 3 (0, 0))) (.cells (agC .u64 65 (ofF l0)) 27 (0, 0))
    rw [alloc_size, alloc_size] at this
    exact this
  have hBb : Below (w4.heap.size + 1) (w4.alloc (.cells #[.slice As xs.length cs] 22 (0, 0))) (((w4.alloc (.cells #[.slice As xs.length cs] 22 (0, 0))).alloc (.cells #[.int .i64 0] 3 (0, 0))).alloc (.cells (agC .u64 65 (ofF l0)) 27 (0, 0))) := by
    rw [← alloc_size w4 (.cells #[.slice As xs.length cs] 22 (0, 0))]
    exact below_alloc (below_alloc (Below.refl _ _) _) _
  have hT4 : TabW w4 := HT.out.step HB.out
  have hTb : TabW (((w4.alloc (.cells #[.slice As xs.length cs] 22 (0, 0))).alloc (.cells #[.int .i64 0] 3 (0, 0))).alloc (.cells (agC .u64 65 (ofF l0)) 27 (0, 0))) := hT4.step (below_alloc (below_alloc (below_alloc (Below.refl _ _) _) _) _)
  go_wp2_with (fail)
  rename_i K hKK
  have hfin : ∀ (D : Nat) (nv : Int) (W : World), Boxed W (w4.heap.size + 1) 3 (.int .i64 nv) → (nv = xs.length ∨ nv = a2) → Below (w4.heap.size + 1) (w4.alloc (.cells #[.slice As xs.length cs] 22 (0, 0))) W → w4.heap.size + 1 ≤ D → W.heap[D]? = some (.deferred (some [])) →
      K { tmps := #[.slice A0 l0.length c0, .int .i64 a1, .int .i64 a2, undef, undef, .pointer (some ⟨w.heap.size, 0, none⟩), .pointer (some ⟨w.heap.size + 1, 0, none⟩), .pointer (some ⟨g7, 0, none⟩), .pointer (some ⟨w4.heap.size, 0, none⟩), .pointer (some ⟨w4.heap.size + 1, 0, none⟩), undef, undef, undef, .bool true, .bool false, .slice A0 l0.length c0, .int .i64 l0.length, .bool false, .slice A0 l0.length c0, .agg (agC .u64 65 (ofF l0)), .slice A0 l0.length c0, .slice As xs.length cs, .agg (agC .u64 65 (ofF l0)), .func (.func 43) #[] #[.pointer (some ⟨w4.heap.size + 1 + 1, 0, none⟩)], undef, undef, undef, undef, undef, undef, undef, undef, undef, undef, undef, undef, undef, undef, undef, undef, undef, undef, undef, undef, undef, undef, undef, undef, undef, undef, undef, undef, undef, undef, undef, undef, undef, undef, undef, undef, undef, undef, undef, undef, undef, undef, undef, undef, undef, undef, undef, undef, undef, undef, undef, undef, undef, undef, undef, undef, undef, undef, undef, undef, undef, undef, undef, undef, undef, undef, undef, undef, undef, undef, undef, undef, undef, undef, undef, undef, undef, undef, undef, undef, undef, undef, undef, undef, undef, undef, undef, undef, undef, undef, undef, undef, undef, undef, undef, undef, undef, undef, undef, undef, undef, undef, undef, undef, undef, undef, undef], defers := [{ target := .collected D, args := #[] }] } W := by
    intro D nv W hbox hnv hB hD hK
    refine hKK _ _ ?_
    have hc9 := hbox.cell
    have hB4 : Below w4.heap.size w4 W := (below_alloc (Below.refl _ _) _).trans (hB.mono (Nat.le_succ _))
    have hc5 : W.cell? ⟨w.heap.size, 0, none⟩ = some (.int .i64 a2) := (blk_cell (blk_below K5.out hB4) 0).trans rfl
    have hS8 : (w4.alloc (.cells #[.slice As xs.length cs] 22 (0, 0))).heap[w4.heap.size]? = some (.cells #[.slice As xs.length cs] 22 (0, 0)) := blk_new w4 _
    have K8 := (hB.block w4.heap.size (Nat.lt_succ_self _)).trans hS8
    have hc8 : W.cell? ⟨w4.heap.size, 0, none⟩ = some (.slice As xs.length cs) := (blk_cell K8 0).trans rfl
    have K6W := blk_below K6.out hB4
    have K7W := blk_below M7'.out hB4
    have hCW := Kd.C_below hCs hB4
    have hTW := hT4.step hB4
    have HBW := below_step HB.out hB4
    have HRW := Kd.C_below HR0.out HBW
    replace K8 := Aside0.mk K8
    replace K6W := Aside0.mk K6W
    replace K7W := Aside0.mk K7W
    replace hCW := Aside0.mk hCW
    replace hTW := Aside0.mk hTW
    replace HBW := Aside0.mk HBW
    replace HRW := Aside0.mk HRW
    replace hK := Aside0.mk hK
    have hgt4 : w.heap.size + 1 < w4.heap.size := blk_lt K6.out
    clear hbox hB hS8 hB4 bN bM hBb hTb hT4 M7' K5 K6 HB
    obtain ⟨nl, hnl⟩ : ∃ nl : Int, (xs.length : Int) = nl := ⟨_, rfl⟩
    go_upto_region 14 with (fail)
    (try simp only [Act.put, List.setIfInBounds_toArray, List.set_cons_zero, List.set_cons_succ])
    go_cut [50] from 42 to 50 (fun v50 wc => v50 = .bool false ∧ wc = W)
    case first =>
      by_cases e1 : nv = nl
      · have d1 : (nv != nl) = false := by simp [e1]
        replace e1 := Aside0.mk e1
        replace hnv := Aside0.mk hnv
        go_wp2
        go_meet
        case rel => exact ⟨rfl, rfl⟩
      · have d1 : (nv != nl) = true := by simp [e1]
        have e2 : nv = a2 := by rw [hnl] at hnv; exact hnv.resolve_left e1
        have d2 : (nv != a2) = false := by simp [e2]
        replace e2 := Aside0.mk e2
        replace hnv := Aside0.mk hnv
        go_wp2
        go_meet
        case rel => exact ⟨rfl, rfl⟩
    case rest =>
      clear hnv hc9 hc5
      obtain ⟨rfl, rfl⟩ := hcut
      obtain ⟨may, hmay⟩ : ∃ b, decide (0 ≤ a1 ∧ a1 ≤ 4096) = b := ⟨_, rfl⟩
      go_upto_region 16 with (fail)
      (try simp only [Act.put, List.setIfInBounds_toArray, List.set_cons_zero, List.set_cons_succ])
      go_cut [11] from 51 to 56 (fun v11 wd => v11 = .bool may ∧ wd = wc)
      case first =>
        by_cases e1 : a1 ≥ 0
        · have d1 := decide_eq_true e1
          by_cases e2 : a1 ≤ 4096
          · have d2 := decide_eq_true e2
            obtain rfl : may = true := by rw [← hmay]; exact decide_eq_true ⟨e1, e2⟩
            go_wp2
            go_meet
            case rel => exact ⟨rfl, rfl⟩
          · have d2 := decide_eq_false e2
            obtain rfl : may = false := by rw [← hmay]; exact decide_eq_false (fun h => e2 h.2)
            go_wp2
            go_meet
            case rel => exact ⟨rfl, rfl⟩
        · have d1 := decide_eq_false e1
          obtain rfl : may = false := by rw [← hmay]; exact decide_eq_false (fun h => e1 h.1)
          go_wp2
          go_meet
          case rel => exact ⟨rfl, rfl⟩
      case rest =>
        obtain ⟨rfl, rfl⟩ := hcut
        obtain ⟨wv, rfl⟩ : ∃ x, x = wc := ⟨wc, rfl⟩
        obtain ⟨inn, hinn⟩ : ∃ b, (may && decide (a1 ∈ l0)) = b := ⟨_, rfl⟩
        go_upto_region 17 with (fail)
        (try simp only [Act.put, List.setIfInBounds_toArray, List.set_cons_zero, List.set_cons_succ])
        go_cut [12] from 57 to 62 (fun v12 we => v12 = .bool inn ∧ Below wv.heap.size wv we)
        case first =>
          cases may
          · obtain rfl : inn = false := by rw [← hinn]; rfl
            go_wp2
            go_meet
            case rel => exact ⟨rfl, Below.refl _ _⟩
          · have e : decide (a1 ∈ l0) = inn := by rw [← hinn]; rfl
            have hin := in_all A0 c0 l0 a1 (by omega) wv HRW.out hc0
            rw [e] at hin
            replace hin := Aside0.mk hin
            replace e := Aside0.mk e
            replace hinn := Aside0.mk hinn
            go_wp2_with (fail)
            refine hin.out.mono ?_
            rintro e w' ⟨rfl, hd⟩
            dsimp only
            go_wp2
            go_meet
            case rel => exact ⟨rfl, hd.below⟩
        case rest =>
          obtain ⟨rfl, hbe⟩ := hcut
          obtain ⟨we, rfl⟩ : ∃ x, x = wc := ⟨wc, rfl⟩
          have K8 := blk_below K8.out hbe
          have K6 := blk_below K6W.out hbe
          have K7 := blk_below K7W.out hbe
          have hCs := Kd.C_below hCW.out hbe
          have hTe := hTW.out.step hbe
          have HBe := below_step HBW.out hbe
          have HRe := Kd.C_below HRW.out hbe
          have hKe := blk_below hK.out hbe
          clear K6W K7W hCW hTW HBW HRW hK hbe
          have hS7 : ∀ X', TlS (w.heap.size + 1) we X' → (ldMap (.pointer (some ⟨g7, 0, none⟩))).run Tryd.prog X' = .ok (.agg (agC .u64 65 (ofF l0))) X' := fun X' h => by
            obtain ⟨X, hb, rfl | rfl⟩ := h
            · exact ldMap_run (blk_below K7 hb)
            · exact ldMap_run (blk_far (blk_below K7 hb) (p := ⟨w.heap.size + 1, 0, none⟩) (by show g7 ≠ w.heap.size + 1; omega) _)
          have hS8 : ∀ X', TlS (w.heap.size + 1) we X' → X'.cell? ⟨w4.heap.size, 0, none⟩ = some (.slice As xs.length cs) := fun X' h => by
            obtain ⟨X, hb, rfl | rfl⟩ := h
            · exact (blk_cell (blk_below K8 hb) 0).trans rfl
            · exact (blk_cell (blk_far (blk_below K8 hb) (p := ⟨w.heap.size + 1, 0, none⟩) (by show w4.heap.size ≠ w.heap.size + 1; omega) _) 0).trans rfl
          have hSl : ∀ X, Below we.heap.size we X → TlS (w.heap.size + 1) we X := fun X h => ⟨X, h, .inl rfl⟩
          have hSr : ∀ X, Below we.heap.size we X → TlS (w.heap.size + 1) we (X.setCell ⟨w.heap.size + 1, 0, none⟩ (.bool true)) := fun X h => ⟨X, h, .inr rfl⟩
          have hS6 : ∀ X, Below we.heap.size we X → X.cell? ⟨w.heap.size + 1, 0, none⟩ = some (.bool false) ∧ X.frozen? ⟨w.heap.size + 1, 0, none⟩ = false := fun X h => ⟨(blk_cell (blk_below K6 h) 0).trans rfl, blk_frozen (blk_below K6 h) 0⟩
          have hX : Below we.heap.size we we := Below.refl _ _
          have CL : ∀ X, TabW X → Calls Tryd.prog 15 #[.agg (agC .u64 65 (ofF l0))] X fun e W' => ∃ v, e = .returned v ∧ Kd.R (Kd.int .i64) 3 W' X.heap.size (fun _ => True) v xs ∧ Below X.heap.size X W' := fun X hT => by
            refine (list_calls (ofF l0) hUf X hT).mono ?_
            rintro e W' ⟨v, rfl, ho, hb⟩
            rw [hxs] at ho
            exact ⟨v, rfl, Kd.R_of_own ho (fun _ _ => trivial), hb⟩
          have CN := len_calls (ofF l0) hUf
          rw [hxs] at CN
          have CH := has_calls (ofF l0) a1
          rw [has_own l0 a1, hmay, hinn] at CH
          have CW := with_calls (ofF l0) a1
          have CHW := has_calls (withF (ofF l0) a1) a1
          rw [has_with_own _ hUf, hmay] at CHW
          have CO := without_calls (ofF l0) a1
          have CHO := has_calls (withoutF (ofF l0) a1) a1
          rw [has_without_own _ hUf] at CHO
          have CWW := with_calls (withoutF (ofF l0) a1) a1
          have CHWW := has_calls (withF (withoutF (ofF l0) a1) a1) a1
          rw [has_with_own _ (withoutU _ hUf a1), hmay] at CHWW
          have COf : ∀ (A : Option Addr) (c : Nat) (X : World), Kd.C (Kd.int .i64) X A (l0 ++ [a1]).length (l0 ++ [a1]) → (l0 ++ [a1]).length ≤ c → Calls Tryd.prog 10 #[.slice A (l0 ++ [a1]).length c] X fun e w' => e = .returned (.agg (agC .u64 65 (withF (ofF l0) a1))) ∧ Below X.heap.size X w' := fun A c X h1 h2 => by
            rw [with_of]; exact of_calls A c (l0 ++ [a1]) X h1 h2
          have E1 : eqF 65 (withF (ofF l0) a1) (withF (ofF l0) a1) = true := eqF_refl _
          have E2 : inn = false → eqF 65 (withoutF (ofF l0) a1) (ofF l0) = true := fun h => without_not l0 a1 (by rw [hmay, hinn, h])
          obtain ⟨ki, hki⟩ := ints_ev xs xs (by omega)
          rw [decide_eq_true rfl] at hki
          have CI := fun A c B d X h1 h2 h3 h4 => spenceref01_Ints.calls ki A c xs B d xs true X h1 h2 h3 h4 (hki ki (Nat.le_refl _))
          have hmm : (may == may) = true := by cases may <;> rfl
          have hnn : (nl == nl) = true := beq_self_eq_true nl
          rw [hnl] at CN
          clear hki hinn hmay hUf hxs
          generalize withF (withoutF (ofF l0) a1) a1 = fWW at CWW CHWW
          generalize withoutF (ofF l0) a1 = fWo at CO CHO CWW E2
          generalize withF (ofF l0) a1 = fW at CW CHW COf E1
          generalize ofF l0 = ff at *
          replace CL := Aside0.mk CL
          replace CN := Aside0.mk CN
          replace CH := Aside0.mk CH
          replace CW := Aside0.mk CW
          replace CHW := Aside0.mk CHW
          replace CO := Aside0.mk CO
          replace CHO := Aside0.mk CHO
          replace CWW := Aside0.mk CWW
          replace CHWW := Aside0.mk CHWW
          replace COf := Aside0.mk COf
          replace CI := Aside0.mk CI
          replace hS6 := Aside0.mk hS6
          replace hSl := Aside0.mk hSl
          replace hSr := Aside0.mk hSr
          replace hCs := Aside0.mk hCs
          replace HRe := Aside0.mk HRe
          replace hTe := Aside0.mk hTe
          replace HBe := Aside0.mk HBe
          replace hKe := Aside0.mk hKe
          replace hX := Aside0.mk hX
          clear K6 K7 K8 hKK HR0 HT
          go_wp2_with (fail)
          rename_i Kz hKz
          replace hKz := Aside0.mk hKz
          cases inn
          · have E2 := E2 rfl
            refine wp_region_noPanic ?_
            refine wp_region_held_drew (S := fun X' => TlS (w.heap.size + 1) we X') (by kernel_rfl) (hSl.out _ (below_drew hX.out)) (fun hHeld => ?_)
            replace hX := Aside0.mk (below_drew hX.out)
            refine wpAnyH_take (i := 0) (oi := { dst := some 63, op := Go.Op.load 27 (Go.Operand.tmp 7), type := 27, pos := "law.go:41", after := #[], guard := none }) (v := ?_) rfl (by kernel_rfl) (by kernel_rfl) (by kernel_rfl) (fun _ _ _ h => h) (Or.inl ⟨by kernel_rfl, ?_⟩) (by assumption) ?_
            rotate_left
            · intro W hSw; go_simp; first | done | with_reducible rfl
            try simp only [Act.put, List.setIfInBounds_toArray, List.set_cons_zero, List.set_cons_succ]
            refine wpAnyH_take (i := 2) (oi := { dst := some 65, op := Go.Op.load 22 (Go.Operand.tmp 8), type := 22, pos := "law.go:41", after := #[], guard := none }) (v := ?_) rfl (by kernel_rfl) (by kernel_rfl) (by kernel_rfl) (fun _ _ _ h => h) (Or.inl ⟨by kernel_rfl, ?_⟩) (by assumption) ?_
            rotate_left
            · intro W hSw; go_simp; first | done | with_reducible rfl
            try simp only [Act.put, List.setIfInBounds_toArray, List.set_cons_zero, List.set_cons_succ]
            refine wpAnyH_ready (rs := [1]) (by kernel_rfl) (by simp) ?_
            refine AllReadyH.cons (o := { dst := some 64, op := Go.Op.call { callee := Go.Callee.value (Go.Operand.func 15), args := #[Go.Operand.tmp 63], argTypes := #[27] }, type := 22, pos := "law.go:41", after := #[{ on := 0, ground := Go.Ground.data }], guard := none }) rfl (fun K hK => ?_) AllReadyH.nil
            refine goes_ (N := some 64) («as» := #[.tmp 63]) Tryd.func15 (by kernel_rfl) rfl #[.agg (agC .u64 65 ff)] (by kernel_rfl) rfl rfl (by kernel_rfl) ?_
            with_reducible refine (CL.out _ (hTe.out.step hX.out)).mono ?_
            rintro e X ⟨v, rfl, hR, hb⟩
            refine ⟨_, rfl, ?_⟩
            replace hX := Aside0.mk (below_step hX.out hb)
            obtain ⟨Al, cl, rfl, hcl, hCl⟩ := Kd.R_reads hR
            replace hCl := Aside0.mk hCl
            clear hb hR
            refine hK.out _ _ ?_ (fun hHeld => ?_)
            · exact hSl.out _ hX.out
            clear hK K
            try simp only [Act.put, List.setIfInBounds_toArray, List.set_cons_zero, List.set_cons_succ]
            refine wpAnyH_ready (rs := [3]) (by kernel_rfl) (by simp) ?_
            refine AllReadyH.cons (o := { dst := some 66, op := Go.Op.call { callee := Go.Callee.value (Go.Operand.func 14), args := #[Go.Operand.tmp 64, Go.Operand.tmp 65], argTypes := #[22, 22] }, type := 4, pos := "law.go:41", after := #[{ on := 1, ground := Go.Ground.data }, { on := 2, ground := Go.Ground.data }, { on := 1, ground := Go.Ground.chain }], guard := none }) rfl (fun K hK => ?_) AllReadyH.nil
            refine goes_ (N := some 66) («as» := #[.tmp 64, .tmp 65]) Tryd.func14 (by kernel_rfl) rfl #[.slice Al xs.length cl, .slice As xs.length cs] (by kernel_rfl) rfl rfl (by kernel_rfl) ?_
            refine (CI.out Al cl As cs _ hCl.out hcl (Kd.C_below hCs.out hX.out) hcs).mono ?_
            rintro e X ⟨rfl, hd⟩
            refine ⟨_, rfl, ?_⟩
            replace hX := Aside0.mk (below_step hX.out hd.below)
            clear hd hCl hcl
            refine hK.out _ _ ?_ (fun hHeld => ?_)
            · exact hSl.out _ hX.out
            clear hK K
            try simp only [Act.put, List.setIfInBounds_toArray, List.set_cons_zero, List.set_cons_succ]
            as_aux_lemma =>
             refine wpAnyH_take (i := 4) (oi := { dst := some 67, op := Go.Op.move (Go.Operand.tmp 66), type := 4, pos := "law.go:41", after := #[{ on := 3, ground := Go.Ground.data }, { on := 3, ground := Go.Ground.chain }], guard := none }) (v := ?_) rfl (by kernel_rfl) (by kernel_rfl) (by kernel_rfl) (fun _ _ _ h => h) (Or.inl ⟨by kernel_rfl, ?_⟩) (by assumption) ?_
             rotate_left
             · intro W hSw; go_simp; first | done | with_reducible rfl
             try simp only [Act.put, List.setIfInBounds_toArray, List.set_cons_zero, List.set_cons_succ]
             refine wpAnyH_take (i := 5) (oi := { dst := some 68, op := Go.Op.load 27 (Go.Operand.tmp 7), type := 27, pos := "law.go:41", after := #[{ on := 4, ground := Go.Ground.guard }], guard := some (4, true) }) (v := ?_) rfl (by kernel_rfl) (by kernel_rfl) (by kernel_rfl) (fun _ _ _ h => h) (Or.inl ⟨by kernel_rfl, ?_⟩) (by assumption) ?_
             rotate_left
             · intro W hSw; go_simp; first | done | with_reducible rfl
             try simp only [Act.put, List.setIfInBounds_toArray, List.set_cons_zero, List.set_cons_succ]
             refine wpAnyH_take (i := 7) (oi := { dst := some 70, op := Go.Op.load 22 (Go.Operand.tmp 8), type := 22, pos := "law.go:41", after := #[{ on := 4, ground := Go.Ground.guard }], guard := some (4, true) }) (v := ?_) rfl (by kernel_rfl) (by kernel_rfl) (by kernel_rfl) (fun _ _ _ h => h) (Or.inl ⟨by kernel_rfl, ?_⟩) (by assumption) ?_
             rotate_left
             · intro W hSw; go_simp; first | done | with_reducible rfl
             try simp only [Act.put, List.setIfInBounds_toArray, List.set_cons_zero, List.set_cons_succ]
             refine wpAnyH_take (i := 8) (oi := { dst := some 71, op := Go.Op.call { callee := Go.Callee.builtin Go.Builtin.len, args := #[Go.Operand.tmp 70], argTypes := #[22] }, type := 3, pos := "law.go:41", after := #[{ on := 7, ground := Go.Ground.data }, { on := 4, ground := Go.Ground.guard }], guard := some (4, true) }) (v := ?_) rfl (by kernel_rfl) (by kernel_rfl) (by kernel_rfl) (fun _ _ _ h => h) (Or.inl ⟨by kernel_rfl, ?_⟩) (by assumption) ?_
             rotate_left
             · intro W hSw; go_simp; first | done | with_reducible rfl
             try simp only [Act.put, List.setIfInBounds_toArray, List.set_cons_zero, List.set_cons_succ]
             refine wpAnyH_ready (rs := [6]) (by kernel_rfl) (by simp) ?_
             refine AllReadyH.cons (o := { dst := some 69, op := Go.Op.call { callee := Go.Callee.value (Go.Operand.func 16), args := #[Go.Operand.tmp 68], argTypes := #[27] }, type := 3, pos := "law.go:41", after := #[{ on := 5, ground := Go.Ground.data }, { on := 4, ground := Go.Ground.chain }, { on := 4, ground := Go.Ground.guard }], guard := some (4, true) }) rfl (fun K hK => ?_) AllReadyH.nil
             refine goes_ (N := some 69) («as» := #[.tmp 68]) Tryd.func16 (by kernel_rfl) rfl #[.agg (agC .u64 65 ff)] (by kernel_rfl) rfl rfl (by kernel_rfl) ?_
             with_reducible refine (CN.out _).mono ?_
             rintro e X ⟨rfl, hb⟩
             refine ⟨_, rfl, ?_⟩
             replace hX := Aside0.mk (below_step hX.out hb)
             (try replace hC1 := Aside0.mk (Kd.C_below hC1.out hb))
             (try replace hR1 := Aside0.mk (Kd.R_below hR1.out hb))
             clear hb
             refine hK.out _ _ ?_ (fun hHeld => ?_)
             · exact hSl.out _ hX.out
             clear hK K
             try simp only [Act.put, List.setIfInBounds_toArray, List.set_cons_zero, List.set_cons_succ]
             refine wpAnyH_take (i := 9) (oi := { dst := some 72, op := Go.Op.binOp Go.BinOp.eql 3 (Go.Operand.tmp 69) (Go.Operand.tmp 71) 3, type := 4, pos := "law.go:41", after := #[{ on := 6, ground := Go.Ground.data }, { on := 8, ground := Go.Ground.data }, { on := 4, ground := Go.Ground.guard }], guard := some (4, true) }) (v := ?_) rfl (by kernel_rfl) (by kernel_rfl) (by kernel_rfl) (fun _ _ _ h => h) (Or.inl ⟨by kernel_rfl, ?_⟩) (by assumption) ?_
             rotate_left
             · intro W hSw; go_simp; first | done | with_reducible rfl
             try simp only [Act.put, List.setIfInBounds_toArray, List.set_cons_zero, List.set_cons_succ]
             refine wpAnyH_take (i := 10) (oi := { dst := some 73, op := Go.Op.pick (Go.Operand.tmp 67) (Go.Operand.tmp 72) (Go.Operand.const (Go.Value.bool false)), type := 4, pos := "law.go:41", after := #[{ on := 4, ground := Go.Ground.data }, { on := 9, ground := Go.Ground.data }], guard := none }) (v := ?_) rfl (by kernel_rfl) (by kernel_rfl) (by kernel_rfl) (fun _ _ _ h => h) (Or.inl ⟨by kernel_rfl, ?_⟩) (by assumption) ?_
             rotate_left
             · intro W hSw; go_simp; first | done | with_reducible rfl
             try simp only [Act.put, List.setIfInBounds_toArray, List.set_cons_zero, List.set_cons_succ]
             refine wpAnyH_take (i := 11) (oi := { dst := some 74, op := Go.Op.move (Go.Operand.tmp 73), type := 4, pos := "law.go:41", after := #[{ on := 10, ground := Go.Ground.data }, { on := 6, ground := Go.Ground.chain }], guard := none }) (v := ?_) rfl (by kernel_rfl) (by kernel_rfl) (by kernel_rfl) (fun _ _ _ h => h) (Or.inl ⟨by kernel_rfl, ?_⟩) (by assumption) ?_
             rotate_left
             · intro W hSw; go_simp; first | done | with_reducible rfl
             try simp only [Act.put, List.setIfInBounds_toArray, List.set_cons_zero, List.set_cons_succ]
             refine wpAnyH_take (i := 12) (oi := { dst := some 75, op := Go.Op.load 27 (Go.Operand.tmp 7), type := 27, pos := "law.go:41", after := #[{ on := 11, ground := Go.Ground.guard }], guard := some (11, true) }) (v := ?_) rfl (by kernel_rfl) (by kernel_rfl) (by kernel_rfl) (fun _ _ _ h => h) (Or.inl ⟨by kernel_rfl, ?_⟩) (by assumption) ?_
             rotate_left
             · intro W hSw; go_simp; first | done | with_reducible rfl
             try simp only [Act.put, List.setIfInBounds_toArray, List.set_cons_zero, List.set_cons_succ]
             refine wpAnyH_take (i := 13) (oi := { dst := some 76, op := Go.Op.move (Go.Operand.tmp 1), type := 3, pos := "law.go:41", after := #[{ on := 11, ground := Go.Ground.guard }], guard := some (11, true) }) (v := ?_) rfl (by kernel_rfl) (by kernel_rfl) (by kernel_rfl) (fun _ _ _ h => h) (Or.inl ⟨by kernel_rfl, ?_⟩) (by assumption) ?_
             rotate_left
             · intro W hSw; go_simp; first | done | with_reducible rfl
             try simp only [Act.put, List.setIfInBounds_toArray, List.set_cons_zero, List.set_cons_succ]
             refine wpAnyH_take (i := 15) (oi := { dst := some 78, op := Go.Op.move (Go.Operand.tmp 12), type := 4, pos := "law.go:41", after := #[{ on := 11, ground := Go.Ground.guard }], guard := some (11, true) }) (v := ?_) rfl (by kernel_rfl) (by kernel_rfl) (by kernel_rfl) (fun _ _ _ h => h) (Or.inl ⟨by kernel_rfl, ?_⟩) (by assumption) ?_
             rotate_left
             · intro W hSw; go_simp; first | done | with_reducible rfl
             try simp only [Act.put, List.setIfInBounds_toArray, List.set_cons_zero, List.set_cons_succ]
             refine wpAnyH_ready (rs := [14]) (by kernel_rfl) (by simp) ?_
             refine AllReadyH.cons (o := { dst := some 77, op := Go.Op.call { callee := Go.Callee.value (Go.Operand.func 17), args := #[Go.Operand.tmp 75, Go.Operand.tmp 76], argTypes := #[27, 3] }, type := 4, pos := "law.go:41", after := #[{ on := 12, ground := Go.Ground.data }, { on := 13, ground := Go.Ground.data }, { on := 11, ground := Go.Ground.chain }, { on := 11, ground := Go.Ground.guard }], guard := some (11, true) }) rfl (fun K hK => ?_) AllReadyH.nil
             refine goes_ (N := some 77) («as» := #[.tmp 75, .tmp 76]) Tryd.func17 (by kernel_rfl) rfl #[.agg (agC .u64 65 ff), .int .i64 a1] (by kernel_rfl) rfl rfl (by kernel_rfl) ?_
             with_reducible refine (CH.out _).mono ?_
             rintro e X ⟨rfl, hb⟩
             refine ⟨_, rfl, ?_⟩
             replace hX := Aside0.mk (below_step hX.out hb)
             (try replace hC1 := Aside0.mk (Kd.C_below hC1.out hb))
             (try replace hR1 := Aside0.mk (Kd.R_below hR1.out hb))
             clear hb
             refine hK.out _ _ ?_ (fun hHeld => ?_)
             · exact hSl.out _ hX.out
             clear hK K
             try simp only [Act.put, List.setIfInBounds_toArray, List.set_cons_zero, List.set_cons_succ]
             as_aux_lemma =>
              refine wpAnyH_take (i := 16) (oi := { dst := some 79, op := Go.Op.binOp Go.BinOp.eql 4 (Go.Operand.tmp 77) (Go.Operand.tmp 78) 4, type := 4, pos := "law.go:41", after := #[{ on := 14, ground := Go.Ground.data }, { on := 15, ground := Go.Ground.data }, { on := 11, ground := Go.Ground.guard }], guard := some (11, true) }) (v := ?_) rfl (by kernel_rfl) (by kernel_rfl) (by kernel_rfl) (fun _ _ _ h => h) (Or.inl ⟨by kernel_rfl, ?_⟩) (by assumption) ?_
              rotate_left
              · intro W hSw; go_simp; first | done | with_reducible rfl
              try simp only [Act.put, List.setIfInBounds_toArray, List.set_cons_zero, List.set_cons_succ]
              refine wpAnyH_take (i := 17) (oi := { dst := some 80, op := Go.Op.pick (Go.Operand.tmp 74) (Go.Operand.tmp 79) (Go.Operand.const (Go.Value.bool false)), type := 4, pos := "law.go:41", after := #[{ on := 11, ground := Go.Ground.data }, { on := 16, ground := Go.Ground.data }], guard := none }) (v := ?_) rfl (by kernel_rfl) (by kernel_rfl) (by kernel_rfl) (fun _ _ _ h => h) (Or.inl ⟨by kernel_rfl, ?_⟩) (by assumption) ?_
              rotate_left
              · intro W hSw; go_simp; first | done | with_reducible rfl
              try simp only [Act.put, List.setIfInBounds_toArray, List.set_cons_zero, List.set_cons_succ]
              refine wpAnyH_take (i := 18) (oi := { dst := some 81, op := Go.Op.move (Go.Operand.tmp 80), type := 4, pos := "law.go:41", after := #[{ on := 17, ground := Go.Ground.data }, { on := 14, ground := Go.Ground.chain }], guard := none }) (v := ?_) rfl (by kernel_rfl) (by kernel_rfl) (by kernel_rfl) (fun _ _ _ h => h) (Or.inl ⟨by kernel_rfl, ?_⟩) (by assumption) ?_
              rotate_left
              · intro W hSw; go_simp; first | done | with_reducible rfl
              try simp only [Act.put, List.setIfInBounds_toArray, List.set_cons_zero, List.set_cons_succ]
              refine wpAnyH_take (i := 19) (oi := { dst := some 82, op := Go.Op.load 27 (Go.Operand.tmp 7), type := 27, pos := "law.go:41", after := #[{ on := 18, ground := Go.Ground.guard }], guard := some (18, true) }) (v := ?_) rfl (by kernel_rfl) (by kernel_rfl) (by kernel_rfl) (fun _ _ _ h => h) (Or.inl ⟨by kernel_rfl, ?_⟩) (by assumption) ?_
              rotate_left
              · intro W hSw; go_simp; first | done | with_reducible rfl
              try simp only [Act.put, List.setIfInBounds_toArray, List.set_cons_zero, List.set_cons_succ]
              refine wpAnyH_take (i := 20) (oi := { dst := some 83, op := Go.Op.move (Go.Operand.tmp 1), type := 3, pos := "law.go:41", after := #[{ on := 18, ground := Go.Ground.guard }], guard := some (18, true) }) (v := ?_) rfl (by kernel_rfl) (by kernel_rfl) (by kernel_rfl) (fun _ _ _ h => h) (Or.inl ⟨by kernel_rfl, ?_⟩) (by assumption) ?_
              rotate_left
              · intro W hSw; go_simp; first | done | with_reducible rfl
              try simp only [Act.put, List.setIfInBounds_toArray, List.set_cons_zero, List.set_cons_succ]
              refine wpAnyH_take (i := 22) (oi := { dst := some 85, op := Go.Op.move (Go.Operand.tmp 1), type := 3, pos := "law.go:41", after := #[{ on := 18, ground := Go.Ground.guard }], guard := some (18, true) }) (v := ?_) rfl (by kernel_rfl) (by kernel_rfl) (by kernel_rfl) (fun _ _ _ h => h) (Or.inl ⟨by kernel_rfl, ?_⟩) (by assumption) ?_
              rotate_left
              · intro W hSw; go_simp; first | done | with_reducible rfl
              try simp only [Act.put, List.setIfInBounds_toArray, List.set_cons_zero, List.set_cons_succ]
              refine wpAnyH_take (i := 24) (oi := { dst := some 87, op := Go.Op.move (Go.Operand.tmp 11), type := 4, pos := "law.go:41", after := #[{ on := 18, ground := Go.Ground.guard }], guard := some (18, true) }) (v := ?_) rfl (by kernel_rfl) (by kernel_rfl) (by kernel_rfl) (fun _ _ _ h => h) (Or.inl ⟨by kernel_rfl, ?_⟩) (by assumption) ?_
              rotate_left
              · intro W hSw; go_simp; first | done | with_reducible rfl
              try simp only [Act.put, List.setIfInBounds_toArray, List.set_cons_zero, List.set_cons_succ]
              refine wpAnyH_ready (rs := [21]) (by kernel_rfl) (by simp) ?_
              refine AllReadyH.cons (o := { dst := some 84, op := Go.Op.call { callee := Go.Callee.value (Go.Operand.func 18), args := #[Go.Operand.tmp 82, Go.Operand.tmp 83], argTypes := #[27, 3] }, type := 27, pos := "law.go:41", after := #[{ on := 19, ground := Go.Ground.data }, { on := 20, ground := Go.Ground.data }, { on := 18, ground := Go.Ground.chain }, { on := 18, ground := Go.Ground.guard }], guard := some (18, true) }) rfl (fun K hK => ?_) AllReadyH.nil
              refine goes_ (N := some 84) («as» := #[.tmp 82, .tmp 83]) Tryd.func18 (by kernel_rfl) rfl #[.agg (agC .u64 65 ff), .int .i64 a1] (by kernel_rfl) rfl rfl (by kernel_rfl) ?_
              with_reducible refine (CW.out _).mono ?_
              rintro e X ⟨rfl, hb⟩
              refine ⟨_, rfl, ?_⟩
              replace hX := Aside0.mk (below_step hX.out hb)
              (try replace hC1 := Aside0.mk (Kd.C_below hC1.out hb))
              (try replace hR1 := Aside0.mk (Kd.R_below hR1.out hb))
              clear hb
              refine hK.out _ _ ?_ (fun hHeld => ?_)
              · exact hSl.out _ hX.out
              clear hK K
              try simp only [Act.put, List.setIfInBounds_toArray, List.set_cons_zero, List.set_cons_succ]
              refine wpAnyH_ready (rs := [23]) (by kernel_rfl) (by simp) ?_
              refine AllReadyH.cons (o := { dst := some 86, op := Go.Op.call { callee := Go.Callee.value (Go.Operand.func 17), args := #[Go.Operand.tmp 84, Go.Operand.tmp 85], argTypes := #[27, 3] }, type := 4, pos := "law.go:41", after := #[{ on := 21, ground := Go.Ground.data }, { on := 22, ground := Go.Ground.data }, { on := 21, ground := Go.Ground.chain }, { on := 18, ground := Go.Ground.guard }], guard := some (18, true) }) rfl (fun K hK => ?_) AllReadyH.nil
              refine goes_ (N := some 86) («as» := #[.tmp 84, .tmp 85]) Tryd.func17 (by kernel_rfl) rfl #[.agg (agC .u64 65 fW), .int .i64 a1] (by kernel_rfl) rfl rfl (by kernel_rfl) ?_
              with_reducible refine (CHW.out _).mono ?_
              rintro e X ⟨rfl, hb⟩
              refine ⟨_, rfl, ?_⟩
              replace hX := Aside0.mk (below_step hX.out hb)
              (try replace hC1 := Aside0.mk (Kd.C_below hC1.out hb))
              (try replace hR1 := Aside0.mk (Kd.R_below hR1.out hb))
              clear hb
              refine hK.out _ _ ?_ (fun hHeld => ?_)
              · exact hSl.out _ hX.out
              clear hK K
              try simp only [Act.put, List.setIfInBounds_toArray, List.set_cons_zero, List.set_cons_succ]
              as_aux_lemma =>
               refine wpAnyH_take (i := 25) (oi := { dst := some 88, op := Go.Op.binOp Go.BinOp.eql 4 (Go.Operand.tmp 86) (Go.Operand.tmp 87) 4, type := 4, pos := "law.go:41", after := #[{ on := 23, ground := Go.Ground.data }, { on := 24, ground := Go.Ground.data }, { on := 18, ground := Go.Ground.guard }], guard := some (18, true) }) (v := ?_) rfl (by kernel_rfl) (by kernel_rfl) (by kernel_rfl) (fun _ _ _ h => h) (Or.inl ⟨by kernel_rfl, ?_⟩) (by assumption) ?_
               rotate_left
               · intro W hSw; go_simp; first | done | with_reducible rfl
               try simp only [Act.put, List.setIfInBounds_toArray, List.set_cons_zero, List.set_cons_succ]
               refine wpAnyH_take (i := 26) (oi := { dst := some 89, op := Go.Op.pick (Go.Operand.tmp 81) (Go.Operand.tmp 88) (Go.Operand.const (Go.Value.bool false)), type := 4, pos := "law.go:41", after := #[{ on := 18, ground := Go.Ground.data }, { on := 25, ground := Go.Ground.data }], guard := none }) (v := ?_) rfl (by kernel_rfl) (by kernel_rfl) (by kernel_rfl) (fun _ _ _ h => h) (Or.inl ⟨by kernel_rfl, ?_⟩) (by assumption) ?_
               rotate_left
               · intro W hSw; go_simp; first | done | with_reducible rfl
               try simp only [Act.put, List.setIfInBounds_toArray, List.set_cons_zero, List.set_cons_succ]
               refine wpAnyH_take (i := 27) (oi := { dst := some 90, op := Go.Op.move (Go.Operand.tmp 89), type := 4, pos := "law.go:41", after := #[{ on := 26, ground := Go.Ground.data }, { on := 23, ground := Go.Ground.chain }], guard := none }) (v := ?_) rfl (by kernel_rfl) (by kernel_rfl) (by kernel_rfl) (fun _ _ _ h => h) (Or.inl ⟨by kernel_rfl, ?_⟩) (by assumption) ?_
               rotate_left
               · intro W hSw; go_simp; first | done | with_reducible rfl
               try simp only [Act.put, List.setIfInBounds_toArray, List.set_cons_zero, List.set_cons_succ]
               refine wpAnyH_take (i := 28) (oi := { dst := some 91, op := Go.Op.load 27 (Go.Operand.tmp 7), type := 27, pos := "law.go:41", after := #[{ on := 27, ground := Go.Ground.guard }], guard := some (27, true) }) (v := ?_) rfl (by kernel_rfl) (by kernel_rfl) (by kernel_rfl) (fun _ _ _ h => h) (Or.inl ⟨by kernel_rfl, ?_⟩) (by assumption) ?_
               rotate_left
               · intro W hSw; go_simp; first | done | with_reducible rfl
               try simp only [Act.put, List.setIfInBounds_toArray, List.set_cons_zero, List.set_cons_succ]
               refine wpAnyH_take (i := 29) (oi := { dst := some 92, op := Go.Op.move (Go.Operand.tmp 1), type := 3, pos := "law.go:41", after := #[{ on := 27, ground := Go.Ground.guard }], guard := some (27, true) }) (v := ?_) rfl (by kernel_rfl) (by kernel_rfl) (by kernel_rfl) (fun _ _ _ h => h) (Or.inl ⟨by kernel_rfl, ?_⟩) (by assumption) ?_
               rotate_left
               · intro W hSw; go_simp; first | done | with_reducible rfl
               try simp only [Act.put, List.setIfInBounds_toArray, List.set_cons_zero, List.set_cons_succ]
               refine wpAnyH_take (i := 31) (oi := { dst := some 94, op := Go.Op.move (Go.Operand.tmp 1), type := 3, pos := "law.go:41", after := #[{ on := 27, ground := Go.Ground.guard }], guard := some (27, true) }) (v := ?_) rfl (by kernel_rfl) (by kernel_rfl) (by kernel_rfl) (fun _ _ _ h => h) (Or.inl ⟨by kernel_rfl, ?_⟩) (by assumption) ?_
               rotate_left
               · intro W hSw; go_simp; first | done | with_reducible rfl
               try simp only [Act.put, List.setIfInBounds_toArray, List.set_cons_zero, List.set_cons_succ]
               refine wpAnyH_ready (rs := [30]) (by kernel_rfl) (by simp) ?_
               refine AllReadyH.cons (o := { dst := some 93, op := Go.Op.call { callee := Go.Callee.value (Go.Operand.func 19), args := #[Go.Operand.tmp 91, Go.Operand.tmp 92], argTypes := #[27, 3] }, type := 27, pos := "law.go:41", after := #[{ on := 28, ground := Go.Ground.data }, { on := 29, ground := Go.Ground.data }, { on := 27, ground := Go.Ground.chain }, { on := 27, ground := Go.Ground.guard }], guard := some (27, true) }) rfl (fun K hK => ?_) AllReadyH.nil
               refine goes_ (N := some 93) («as» := #[.tmp 91, .tmp 92]) Tryd.func19 (by kernel_rfl) rfl #[.agg (agC .u64 65 ff), .int .i64 a1] (by kernel_rfl) rfl rfl (by kernel_rfl) ?_
               with_reducible refine (CO.out _).mono ?_
               rintro e X ⟨rfl, hb⟩
               refine ⟨_, rfl, ?_⟩
               replace hX := Aside0.mk (below_step hX.out hb)
               (try replace hC1 := Aside0.mk (Kd.C_below hC1.out hb))
               (try replace hR1 := Aside0.mk (Kd.R_below hR1.out hb))
               clear hb
               refine hK.out _ _ ?_ (fun hHeld => ?_)
               · exact hSl.out _ hX.out
               clear hK K
               try simp only [Act.put, List.setIfInBounds_toArray, List.set_cons_zero, List.set_cons_succ]
               refine wpAnyH_ready (rs := [32]) (by kernel_rfl) (by simp) ?_
               refine AllReadyH.cons (o := { dst := some 95, op := Go.Op.call { callee := Go.Callee.value (Go.Operand.func 17), args := #[Go.Operand.tmp 93, Go.Operand.tmp 94], argTypes := #[27, 3] }, type := 4, pos := "law.go:41", after := #[{ on := 30, ground := Go.Ground.data }, { on := 31, ground := Go.Ground.data }, { on := 30, ground := Go.Ground.chain }, { on := 27, ground := Go.Ground.guard }], guard := some (27, true) }) rfl (fun K hK => ?_) AllReadyH.nil
               refine goes_ (N := some 95) («as» := #[.tmp 93, .tmp 94]) Tryd.func17 (by kernel_rfl) rfl #[.agg (agC .u64 65 fWo), .int .i64 a1] (by kernel_rfl) rfl rfl (by kernel_rfl) ?_
               with_reducible refine (CHO.out _).mono ?_
               rintro e X ⟨rfl, hb⟩
               refine ⟨_, rfl, ?_⟩
               replace hX := Aside0.mk (below_step hX.out hb)
               (try replace hC1 := Aside0.mk (Kd.C_below hC1.out hb))
               (try replace hR1 := Aside0.mk (Kd.R_below hR1.out hb))
               clear hb
               refine hK.out _ _ ?_ (fun hHeld => ?_)
               · exact hSl.out _ hX.out
               clear hK K
               try simp only [Act.put, List.setIfInBounds_toArray, List.set_cons_zero, List.set_cons_succ]
               as_aux_lemma =>
                refine wpAnyH_take (i := 33) (oi := { dst := some 96, op := Go.Op.unOp Go.UnOp.not 4 (Go.Operand.tmp 95), type := 4, pos := "law.go:41", after := #[{ on := 32, ground := Go.Ground.data }, { on := 27, ground := Go.Ground.guard }], guard := some (27, true) }) (v := ?_) rfl (by kernel_rfl) (by kernel_rfl) (by kernel_rfl) (fun _ _ _ h => h) (Or.inl ⟨by kernel_rfl, ?_⟩) (by assumption) ?_
                rotate_left
                · intro W hSw; go_simp; first | done | with_reducible rfl
                try simp only [Act.put, List.setIfInBounds_toArray, List.set_cons_zero, List.set_cons_succ]
                refine wpAnyH_take (i := 34) (oi := { dst := some 97, op := Go.Op.pick (Go.Operand.tmp 90) (Go.Operand.tmp 96) (Go.Operand.const (Go.Value.bool false)), type := 4, pos := "law.go:41", after := #[{ on := 27, ground := Go.Ground.data }, { on := 33, ground := Go.Ground.data }], guard := none }) (v := ?_) rfl (by kernel_rfl) (by kernel_rfl) (by kernel_rfl) (fun _ _ _ h => h) (Or.inl ⟨by kernel_rfl, ?_⟩) (by assumption) ?_
                rotate_left
                · intro W hSw; go_simp; first | done | with_reducible rfl
                try simp only [Act.put, List.setIfInBounds_toArray, List.set_cons_zero, List.set_cons_succ]
                refine wpAnyH_take (i := 35) (oi := { dst := some 98, op := Go.Op.move (Go.Operand.tmp 97), type := 4, pos := "law.go:41", after := #[{ on := 34, ground := Go.Ground.data }, { on := 32, ground := Go.Ground.chain }], guard := none }) (v := ?_) rfl (by kernel_rfl) (by kernel_rfl) (by kernel_rfl) (fun _ _ _ h => h) (Or.inl ⟨by kernel_rfl, ?_⟩) (by assumption) ?_
                rotate_left
                · intro W hSw; go_simp; first | done | with_reducible rfl
                try simp only [Act.put, List.setIfInBounds_toArray, List.set_cons_zero, List.set_cons_succ]
                refine wpAnyH_take (i := 36) (oi := { dst := some 99, op := Go.Op.load 27 (Go.Operand.tmp 7), type := 27, pos := "law.go:41", after := #[{ on := 35, ground := Go.Ground.guard }], guard := some (35, true) }) (v := ?_) rfl (by kernel_rfl) (by kernel_rfl) (by kernel_rfl) (fun _ _ _ h => h) (Or.inl ⟨by kernel_rfl, ?_⟩) (by assumption) ?_
                rotate_left
                · intro W hSw; go_simp; first | done | with_reducible rfl
                try simp only [Act.put, List.setIfInBounds_toArray, List.set_cons_zero, List.set_cons_succ]
                refine wpAnyH_take (i := 37) (oi := { dst := some 100, op := Go.Op.move (Go.Operand.tmp 1), type := 3, pos := "law.go:41", after := #[{ on := 35, ground := Go.Ground.guard }], guard := some (35, true) }) (v := ?_) rfl (by kernel_rfl) (by kernel_rfl) (by kernel_rfl) (fun _ _ _ h => h) (Or.inl ⟨by kernel_rfl, ?_⟩) (by assumption) ?_
                rotate_left
                · intro W hSw; go_simp; first | done | with_reducible rfl
                try simp only [Act.put, List.setIfInBounds_toArray, List.set_cons_zero, List.set_cons_succ]
                refine wpAnyH_take (i := 39) (oi := { dst := some 102, op := Go.Op.move (Go.Operand.tmp 0), type := 22, pos := "law.go:41", after := #[{ on := 35, ground := Go.Ground.guard }], guard := some (35, true) }) (v := ?_) rfl (by kernel_rfl) (by kernel_rfl) (by kernel_rfl) (fun _ _ _ h => h) (Or.inl ⟨by kernel_rfl, ?_⟩) (by assumption) ?_
                rotate_left
                · intro W hSw; go_simp; first | done | with_reducible rfl
                try simp only [Act.put, List.setIfInBounds_toArray, List.set_cons_zero, List.set_cons_succ]
                refine wpAnyH_take (i := 41) (oi := { dst := some 104, op := Go.Op.move (Go.Operand.tmp 1), type := 3, pos := "law.go:41", after := #[{ on := 35, ground := Go.Ground.guard }], guard := some (35, true) }) (v := ?_) rfl (by kernel_rfl) (by kernel_rfl) (by kernel_rfl) (fun _ _ _ h => h) (Or.inl ⟨by kernel_rfl, ?_⟩) (by assumption) ?_
                rotate_left
                · intro W hSw; go_simp; first | done | with_reducible rfl
                try simp only [Act.put, List.setIfInBounds_toArray, List.set_cons_zero, List.set_cons_succ]
                refine wpAnyH_ready (rs := [38, 42]) (by kernel_rfl) (by simp) ?_
                refine AllReadyH.cons (o := { dst := some 101, op := Go.Op.call { callee := Go.Callee.value (Go.Operand.func 18), args := #[Go.Operand.tmp 99, Go.Operand.tmp 100], argTypes := #[27, 3] }, type := 27, pos := "law.go:41", after := #[{ on := 36, ground := Go.Ground.data }, { on := 37, ground := Go.Ground.data }, { on := 35, ground := Go.Ground.chain }, { on := 35, ground := Go.Ground.guard }], guard := some (35, true) }) rfl (fun K hK => ?_) (AllReadyH.cons (o := { dst := some 105, op := Go.Op.buildSlice 22 1 #[(0, Go.Operand.tmp 104)], type := 22, pos := "law.go:41", after := #[{ on := 41, ground := Go.Ground.data }, { on := 35, ground := Go.Ground.guard }], guard := some (35, true) }) rfl (fun K hK => ?_) AllReadyH.nil)
                · refine goes_ (N := some 101) («as» := #[.tmp 99, .tmp 100]) Tryd.func18 (by kernel_rfl) rfl #[.agg (agC .u64 65 ff), .int .i64 a1] (by kernel_rfl) rfl rfl (by kernel_rfl) ?_
                  with_reducible refine (CW.out _).mono ?_
                  rintro e X ⟨rfl, hb⟩
                  refine ⟨_, rfl, ?_⟩
                  replace hX := Aside0.mk (below_step hX.out hb)
                  (try replace hC1 := Aside0.mk (Kd.C_below hC1.out hb))
                  (try replace hR1 := Aside0.mk (Kd.R_below hR1.out hb))
                  clear hb
                  refine hK.out _ _ ?_ (fun hHeld => ?_)
                  · exact hSl.out _ hX.out
                  clear hK K
                  try simp only [Act.put, List.setIfInBounds_toArray, List.set_cons_zero, List.set_cons_succ]
                  as_aux_lemma =>
                   refine wpAnyH_ready (rs := [40, 42]) (by kernel_rfl) (by simp) ?_
                   refine AllReadyH.cons (o := { dst := some 103, op := Go.Op.call { callee := Go.Callee.builtin Go.Builtin.append, args := #[Go.Operand.const (Go.Value.slice none 0 0), Go.Operand.tmp 102], argTypes := #[22, 22] }, type := 22, pos := "law.go:41", after := #[{ on := 39, ground := Go.Ground.data }, { on := 38, ground := Go.Ground.chain }, { on := 35, ground := Go.Ground.guard }], guard := some (35, true) }) rfl (fun K hK => ?_) (AllReadyH.cons (o := { dst := some 105, op := Go.Op.buildSlice 22 1 #[(0, Go.Operand.tmp 104)], type := 22, pos := "law.go:41", after := #[{ on := 41, ground := Go.Ground.data }, { on := 35, ground := Go.Ground.guard }], guard := some (35, true) }) rfl (fun K hK => ?_) AllReadyH.nil)
                   · refine Kd.R_append_rows_step (Kd.int .i64) we.heap.size (by kernel_rfl) (.const (.slice none 0 0)) (.tmp 102) 22 3 (.int .i64 0) 8 rfl Tryd.underlying22 (by kernel_rfl) rfl (by decide) (by decide) (.slice none 0 0) [] l0 A0 l0.length c0 (fun _ => True) (fun _ => False) rfl rfl (Kd.R_nil _ _ _ _ _) (Kd.C_below HRe.out hX.out) (fun x cs h => h) (fun _ h => h.elim) (fun _ _ => trivial) hX.out (below_size hX.out) (by simp; omega) ?_
                     intro v1 X1 hR1 hb1 hg1 _
                     rw [List.nil_append] at hR1
                     replace hX := Aside0.mk hb1
                     replace hR1 := Aside0.mk hR1
                     (try replace hC1 := Aside0.mk (Kd.C_below hC1.out ((Below.refl _ _).grown hg1 (Nat.le_refl _) (fun k e => by cases e))))
                     clear hb1 hg1
                     refine hK.out _ _ ?_ (fun hHeld => ?_)
                     · exact hSl.out _ hX.out
                     clear hK K
                     try simp only [Act.put, List.setIfInBounds_toArray, List.set_cons_zero, List.set_cons_succ]
                     as_aux_lemma =>
                      refine wpAnyH_ready (rs := [42]) (by kernel_rfl) (by simp) ?_
                      refine AllReadyH.cons (o := { dst := some 105, op := Go.Op.buildSlice 22 1 #[(0, Go.Operand.tmp 104)], type := 22, pos := "law.go:41", after := #[{ on := 41, ground := Go.Ground.data }, { on := 35, ground := Go.Ground.guard }], guard := some (35, true) }) rfl (fun K hK => ?_) AllReadyH.nil
                      have hC1 := Aside0.mk (one_new hX.out a1 3)
                      (try replace hR1 := Aside0.mk (Kd.R_below hR1.out (below_alloc (Below.refl _ _) (.cells #[.int .i64 a1] 3 (0, 0)))))
                      replace hX := Aside0.mk (below_alloc hX.out (.cells #[.int .i64 a1] 3 (0, 0)))
                      go_simp
                      refine hK.out _ _ ?_ (fun hHeld => ?_)
                      · exact hSl.out _ hX.out
                      clear hK K
                      try simp only [Act.put, List.setIfInBounds_toArray, List.set_cons_zero, List.set_cons_succ]
                      refine wpAnyH_ready (rs := [43]) (by kernel_rfl) (by simp) ?_
                      refine AllReadyH.cons (o := { dst := some 106, op := Go.Op.call { callee := Go.Callee.builtin Go.Builtin.append, args := #[Go.Operand.tmp 103, Go.Operand.tmp 105], argTypes := #[22, 22] }, type := 22, pos := "law.go:41", after := #[{ on := 40, ground := Go.Ground.data }, { on := 42, ground := Go.Ground.data }, { on := 40, ground := Go.Ground.chain }, { on := 35, ground := Go.Ground.guard }], guard := some (35, true) }) rfl (fun K hK => ?_) AllReadyH.nil
                      refine Kd.R_append_rows_step (Kd.int .i64) we.heap.size (by kernel_rfl) (.tmp 103) (.tmp 105) 22 3 (.int .i64 0) 8 rfl Tryd.underlying22 (by kernel_rfl) rfl (by decide) (by decide) v1 l0 [a1] _ 1 1 (fun _ => True) (fun _ => False) rfl rfl hR1.out hC1.out (fun x cs h => h) (fun _ h => h.elim) (fun _ _ => trivial) hX.out (below_size hX.out) (by omega) ?_
                      intro v2 X2 hR2 hb2 _ _
                      replace hX := Aside0.mk hb2
                      obtain ⟨A2, c2, rfl, hc2, hC2⟩ := Kd.R_reads hR2
                      replace hC2 := Aside0.mk hC2
                      clear hb2 hR2 hR1 hC1
                      refine hK.out _ _ ?_ (fun hHeld => ?_)
                      · exact hSl.out _ hX.out
                      clear hK K
                      try simp only [Act.put, List.setIfInBounds_toArray, List.set_cons_zero, List.set_cons_succ]
                      as_aux_lemma =>
                       refine wpAnyH_ready (rs := [44]) (by kernel_rfl) (by simp) ?_
                       refine AllReadyH.cons (o := { dst := some 107, op := Go.Op.call { callee := Go.Callee.value (Go.Operand.func 10), args := #[Go.Operand.tmp 106], argTypes := #[22] }, type := 27, pos := "law.go:41", after := #[{ on := 43, ground := Go.Ground.data }, { on := 43, ground := Go.Ground.chain }, { on := 35, ground := Go.Ground.guard }], guard := some (35, true) }) rfl (fun K hK => ?_) AllReadyH.nil
                       refine goes_ (N := some 107) («as» := #[.tmp 106]) Tryd.func10 (by kernel_rfl) rfl #[.slice A2 (l0 ++ [a1]).length c2] (by kernel_rfl) rfl rfl (by kernel_rfl) ?_
                       with_reducible refine (COf.out A2 c2 _ hC2.out hc2).mono ?_
                       rintro e X ⟨rfl, hb⟩
                       refine ⟨_, rfl, ?_⟩
                       replace hX := Aside0.mk (below_step hX.out hb)
                       clear hb hC2 hc2
                       refine hK.out _ _ ?_ (fun hHeld => ?_)
                       · exact hSl.out _ hX.out
                       clear hK K
                       try simp only [Act.put, List.setIfInBounds_toArray, List.set_cons_zero, List.set_cons_succ]
                       refine wpAnyH_take (i := 45) (oi := { dst := some 108, op := Go.Op.binOp Go.BinOp.eql 27 (Go.Operand.tmp 101) (Go.Operand.tmp 107) 27, type := 4, pos := "law.go:41", after := #[{ on := 38, ground := Go.Ground.data }, { on := 44, ground := Go.Ground.data }, { on := 35, ground := Go.Ground.guard }], guard := some (35, true) }) (v := ?_) rfl (by kernel_rfl) (by kernel_rfl) (by kernel_rfl) (fun _ _ _ h => h) (Or.inl ⟨by kernel_rfl, ?_⟩) (by assumption) ?_
                       rotate_left
                       · intro W hSw; go_simp; first | done | with_reducible rfl
                       try simp only [Act.put, List.setIfInBounds_toArray, List.set_cons_zero, List.set_cons_succ]
                       refine wpAnyH_take (i := 46) (oi := { dst := some 109, op := Go.Op.pick (Go.Operand.tmp 98) (Go.Operand.tmp 108) (Go.Operand.const (Go.Value.bool false)), type := 4, pos := "law.go:41", after := #[{ on := 35, ground := Go.Ground.data }, { on := 45, ground := Go.Ground.data }], guard := none }) (v := ?_) rfl (by kernel_rfl) (by kernel_rfl) (by kernel_rfl) (fun _ _ _ h => h) (Or.inl ⟨by kernel_rfl, ?_⟩) (by assumption) ?_
                       rotate_left
                       · intro W hSw; go_simp; first | done | with_reducible rfl
                       try simp only [Act.put, List.setIfInBounds_toArray, List.set_cons_zero, List.set_cons_succ]
                       refine wpAnyH_take (i := 47) (oi := { dst := some 110, op := Go.Op.move (Go.Operand.tmp 109), type := 4, pos := "law.go:41", after := #[{ on := 46, ground := Go.Ground.data }, { on := 44, ground := Go.Ground.chain }], guard := none }) (v := ?_) rfl (by kernel_rfl) (by kernel_rfl) (by kernel_rfl) (fun _ _ _ h => h) (Or.inl ⟨by kernel_rfl, ?_⟩) (by assumption) ?_
                       rotate_left
                       · intro W hSw; go_simp; first | done | with_reducible rfl
                       try simp only [Act.put, List.setIfInBounds_toArray, List.set_cons_zero, List.set_cons_succ]
                       refine wpAnyH_take (i := 48) (oi := { dst := some 111, op := Go.Op.load 27 (Go.Operand.tmp 7), type := 27, pos := "law.go:41", after := #[{ on := 47, ground := Go.Ground.guard }], guard := some (47, true) }) (v := ?_) rfl (by kernel_rfl) (by kernel_rfl) (by kernel_rfl) (fun _ _ _ h => h) (Or.inl ⟨by kernel_rfl, ?_⟩) (by assumption) ?_
                       rotate_left
                       · intro W hSw; go_simp; first | done | with_reducible rfl
                       try simp only [Act.put, List.setIfInBounds_toArray, List.set_cons_zero, List.set_cons_succ]
                       refine wpAnyH_take (i := 49) (oi := { dst := some 112, op := Go.Op.move (Go.Operand.tmp 1), type := 3, pos := "law.go:41", after := #[{ on := 47, ground := Go.Ground.guard }], guard := some (47, true) }) (v := ?_) rfl (by kernel_rfl) (by kernel_rfl) (by kernel_rfl) (fun _ _ _ h => h) (Or.inl ⟨by kernel_rfl, ?_⟩) (by assumption) ?_
                       rotate_left
                       · intro W hSw; go_simp; first | done | with_reducible rfl
                       try simp only [Act.put, List.setIfInBounds_toArray, List.set_cons_zero, List.set_cons_succ]
                       refine wpAnyH_take (i := 51) (oi := { dst := some 114, op := Go.Op.move (Go.Operand.tmp 1), type := 3, pos := "law.go:41", after := #[{ on := 47, ground := Go.Ground.guard }], guard := some (47, true) }) (v := ?_) rfl (by kernel_rfl) (by kernel_rfl) (by kernel_rfl) (fun _ _ _ h => h) (Or.inl ⟨by kernel_rfl, ?_⟩) (by assumption) ?_
                       rotate_left
                       · intro W hSw; go_simp; first | done | with_reducible rfl
                       try simp only [Act.put, List.setIfInBounds_toArray, List.set_cons_zero, List.set_cons_succ]
                       refine wpAnyH_take (i := 53) (oi := { dst := some 116, op := Go.Op.move (Go.Operand.tmp 1), type := 3, pos := "law.go:41", after := #[{ on := 47, ground := Go.Ground.guard }], guard := some (47, true) }) (v := ?_) rfl (by kernel_rfl) (by kernel_rfl) (by kernel_rfl) (fun _ _ _ h => h) (Or.inl ⟨by kernel_rfl, ?_⟩) (by assumption) ?_
                       rotate_left
                       · intro W hSw; go_simp; first | done | with_reducible rfl
                       try simp only [Act.put, List.setIfInBounds_toArray, List.set_cons_zero, List.set_cons_succ]
                       refine wpAnyH_take (i := 55) (oi := { dst := some 118, op := Go.Op.move (Go.Operand.tmp 11), type := 4, pos := "law.go:41", after := #[{ on := 47, ground := Go.Ground.guard }], guard := some (47, true) }) (v := ?_) rfl (by kernel_rfl) (by kernel_rfl) (by kernel_rfl) (fun _ _ _ h => h) (Or.inl ⟨by kernel_rfl, ?_⟩) (by assumption) ?_
                       rotate_left
                       · intro W hSw; go_simp; first | done | with_reducible rfl
                       try simp only [Act.put, List.setIfInBounds_toArray, List.set_cons_zero, List.set_cons_succ]
                       refine wpAnyH_ready (rs := [50]) (by kernel_rfl) (by simp) ?_
                       refine AllReadyH.cons (o := { dst := some 113, op := Go.Op.call { callee := Go.Callee.value (Go.Operand.func 19), args := #[Go.Operand.tmp 111, Go.Operand.tmp 112], argTypes := #[27, 3] }, type := 27, pos := "law.go:41", after := #[{ on := 48, ground := Go.Ground.data }, { on := 49, ground := Go.Ground.data }, { on := 47, ground := Go.Ground.chain }, { on := 47, ground := Go.Ground.guard }], guard := some (47, true) }) rfl (fun K hK => ?_) AllReadyH.nil
                       refine goes_ (N := some 113) («as» := #[.tmp 111, .tmp 112]) Tryd.func19 (by kernel_rfl) rfl #[.agg (agC .u64 65 ff), .int .i64 a1] (by kernel_rfl) rfl rfl (by kernel_rfl) ?_
                       with_reducible refine (CO.out _).mono ?_
                       rintro e X ⟨rfl, hb⟩
                       refine ⟨_, rfl, ?_⟩
                       replace hX := Aside0.mk (below_step hX.out hb)
                       (try replace hC1 := Aside0.mk (Kd.C_below hC1.out hb))
                       (try replace hR1 := Aside0.mk (Kd.R_below hR1.out hb))
                       clear hb
                       refine hK.out _ _ ?_ (fun hHeld => ?_)
                       · exact hSl.out _ hX.out
                       clear hK K
                       try simp only [Act.put, List.setIfInBounds_toArray, List.set_cons_zero, List.set_cons_succ]
                       as_aux_lemma =>
                        refine wpAnyH_ready (rs := [52]) (by kernel_rfl) (by simp) ?_
                        refine AllReadyH.cons (o := { dst := some 115, op := Go.Op.call { callee := Go.Callee.value (Go.Operand.func 18), args := #[Go.Operand.tmp 113, Go.Operand.tmp 114], argTypes := #[27, 3] }, type := 27, pos := "law.go:41", after := #[{ on := 50, ground := Go.Ground.data }, { on := 51, ground := Go.Ground.data }, { on := 50, ground := Go.Ground.chain }, { on := 47, ground := Go.Ground.guard }], guard := some (47, true) }) rfl (fun K hK => ?_) AllReadyH.nil
                        refine goes_ (N := some 115) («as» := #[.tmp 113, .tmp 114]) Tryd.func18 (by kernel_rfl) rfl #[.agg (agC .u64 65 fWo), .int .i64 a1] (by kernel_rfl) rfl rfl (by kernel_rfl) ?_
                        with_reducible refine (CWW.out _).mono ?_
                        rintro e X ⟨rfl, hb⟩
                        refine ⟨_, rfl, ?_⟩
                        replace hX := Aside0.mk (below_step hX.out hb)
                        (try replace hC1 := Aside0.mk (Kd.C_below hC1.out hb))
                        (try replace hR1 := Aside0.mk (Kd.R_below hR1.out hb))
                        clear hb
                        refine hK.out _ _ ?_ (fun hHeld => ?_)
                        · exact hSl.out _ hX.out
                        clear hK K
                        try simp only [Act.put, List.setIfInBounds_toArray, List.set_cons_zero, List.set_cons_succ]
                        refine wpAnyH_ready (rs := [54]) (by kernel_rfl) (by simp) ?_
                        refine AllReadyH.cons (o := { dst := some 117, op := Go.Op.call { callee := Go.Callee.value (Go.Operand.func 17), args := #[Go.Operand.tmp 115, Go.Operand.tmp 116], argTypes := #[27, 3] }, type := 4, pos := "law.go:41", after := #[{ on := 52, ground := Go.Ground.data }, { on := 53, ground := Go.Ground.data }, { on := 52, ground := Go.Ground.chain }, { on := 47, ground := Go.Ground.guard }], guard := some (47, true) }) rfl (fun K hK => ?_) AllReadyH.nil
                        refine goes_ (N := some 117) («as» := #[.tmp 115, .tmp 116]) Tryd.func17 (by kernel_rfl) rfl #[.agg (agC .u64 65 fWW), .int .i64 a1] (by kernel_rfl) rfl rfl (by kernel_rfl) ?_
                        with_reducible refine (CHWW.out _).mono ?_
                        rintro e X ⟨rfl, hb⟩
                        refine ⟨_, rfl, ?_⟩
                        replace hX := Aside0.mk (below_step hX.out hb)
                        (try replace hC1 := Aside0.mk (Kd.C_below hC1.out hb))
                        (try replace hR1 := Aside0.mk (Kd.R_below hR1.out hb))
                        clear hb
                        refine hK.out _ _ ?_ (fun hHeld => ?_)
                        · exact hSl.out _ hX.out
                        clear hK K
                        try simp only [Act.put, List.setIfInBounds_toArray, List.set_cons_zero, List.set_cons_succ]
                        as_aux_lemma =>
                         refine wpAnyH_take (i := 56) (oi := { dst := some 119, op := Go.Op.binOp Go.BinOp.eql 4 (Go.Operand.tmp 117) (Go.Operand.tmp 118) 4, type := 4, pos := "law.go:41", after := #[{ on := 54, ground := Go.Ground.data }, { on := 55, ground := Go.Ground.data }, { on := 47, ground := Go.Ground.guard }], guard := some (47, true) }) (v := ?_) rfl (by kernel_rfl) (by kernel_rfl) (by kernel_rfl) (fun _ _ _ h => h) (Or.inl ⟨by kernel_rfl, ?_⟩) (by assumption) ?_
                         rotate_left
                         · intro W hSw; go_simp; first | done | with_reducible rfl
                         try simp only [Act.put, List.setIfInBounds_toArray, List.set_cons_zero, List.set_cons_succ]
                         refine wpAnyH_take (i := 57) (oi := { dst := some 120, op := Go.Op.pick (Go.Operand.tmp 110) (Go.Operand.tmp 119) (Go.Operand.const (Go.Value.bool false)), type := 4, pos := "law.go:41", after := #[{ on := 47, ground := Go.Ground.data }, { on := 56, ground := Go.Ground.data }], guard := none }) (v := ?_) rfl (by kernel_rfl) (by kernel_rfl) (by kernel_rfl) (fun _ _ _ h => h) (Or.inl ⟨by kernel_rfl, ?_⟩) (by assumption) ?_
                         rotate_left
                         · intro W hSw; go_simp; first | done | with_reducible rfl
                         try simp only [Act.put, List.setIfInBounds_toArray, List.set_cons_zero, List.set_cons_succ]
                         refine wpAnyH_take (i := 58) (oi := { dst := some 121, op := Go.Op.move (Go.Operand.tmp 120), type := 4, pos := "law.go:41", after := #[{ on := 57, ground := Go.Ground.data }, { on := 54, ground := Go.Ground.chain }], guard := none }) (v := ?_) rfl (by kernel_rfl) (by kernel_rfl) (by kernel_rfl) (fun _ _ _ h => h) (Or.inl ⟨by kernel_rfl, ?_⟩) (by assumption) ?_
                         rotate_left
                         · intro W hSw; go_simp; first | done | with_reducible rfl
                         try simp only [Act.put, List.setIfInBounds_toArray, List.set_cons_zero, List.set_cons_succ]
                         refine wpAnyH_take (i := 59) (oi := { dst := some 122, op := Go.Op.move (Go.Operand.tmp 12), type := 4, pos := "law.go:41", after := #[{ on := 58, ground := Go.Ground.guard }], guard := some (58, true) }) (v := ?_) rfl (by kernel_rfl) (by kernel_rfl) (by kernel_rfl) (fun _ _ _ h => h) (Or.inl ⟨by kernel_rfl, ?_⟩) (by assumption) ?_
                         rotate_left
                         · intro W hSw; go_simp; first | done | with_reducible rfl
                         try simp only [Act.put, List.setIfInBounds_toArray, List.set_cons_zero, List.set_cons_succ]
                         refine wpAnyH_take (i := 60) (oi := { dst := some 123, op := Go.Op.move (Go.Operand.tmp 122), type := 4, pos := "law.go:41", after := #[{ on := 59, ground := Go.Ground.data }, { on := 58, ground := Go.Ground.chain }, { on := 58, ground := Go.Ground.guard }], guard := some (58, true) }) (v := ?_) rfl (by kernel_rfl) (by kernel_rfl) (by kernel_rfl) (fun _ _ _ h => h) (Or.inl ⟨by kernel_rfl, ?_⟩) (by assumption) ?_
                         rotate_left
                         · intro W hSw; go_simp; first | done | with_reducible rfl
                         try simp only [Act.put, List.setIfInBounds_toArray, List.set_cons_zero, List.set_cons_succ]
                         refine wpAnyH_take (i := 61) (oi := { dst := some 124, op := Go.Op.load 27 (Go.Operand.tmp 7), type := 27, pos := "law.go:41", after := #[{ on := 60, ground := Go.Ground.guard }], guard := some (60, false) }) (v := ?_) rfl (by kernel_rfl) (by kernel_rfl) (by kernel_rfl) (fun _ _ _ h => h) (Or.inl ⟨by kernel_rfl, ?_⟩) (by assumption) ?_
                         rotate_left
                         · intro W hSw; go_simp; first | done | with_reducible rfl
                         try simp only [Act.put, List.setIfInBounds_toArray, List.set_cons_zero, List.set_cons_succ]
                         refine wpAnyH_take (i := 62) (oi := { dst := some 125, op := Go.Op.move (Go.Operand.tmp 1), type := 3, pos := "law.go:41", after := #[{ on := 60, ground := Go.Ground.guard }], guard := some (60, false) }) (v := ?_) rfl (by kernel_rfl) (by kernel_rfl) (by kernel_rfl) (fun _ _ _ h => h) (Or.inl ⟨by kernel_rfl, ?_⟩) (by assumption) ?_
                         rotate_left
                         · intro W hSw; go_simp; first | done | with_reducible rfl
                         try simp only [Act.put, List.setIfInBounds_toArray, List.set_cons_zero, List.set_cons_succ]
                         refine wpAnyH_take (i := 64) (oi := { dst := some 127, op := Go.Op.load 27 (Go.Operand.tmp 7), type := 27, pos := "law.go:41", after := #[{ on := 60, ground := Go.Ground.guard }], guard := some (60, false) }) (v := ?_) rfl (by kernel_rfl) (by kernel_rfl) (by kernel_rfl) (fun _ _ _ h => h) (Or.inl ⟨by kernel_rfl, ?_⟩) (by assumption) ?_
                         rotate_left
                         · intro W hSw; go_simp; first | done | with_reducible rfl
                         try simp only [Act.put, List.setIfInBounds_toArray, List.set_cons_zero, List.set_cons_succ]
                         refine wpAnyH_ready (rs := [63]) (by kernel_rfl) (by simp) ?_
                         refine AllReadyH.cons (o := { dst := some 126, op := Go.Op.call { callee := Go.Callee.value (Go.Operand.func 19), args := #[Go.Operand.tmp 124, Go.Operand.tmp 125], argTypes := #[27, 3] }, type := 27, pos := "law.go:41", after := #[{ on := 61, ground := Go.Ground.data }, { on := 62, ground := Go.Ground.data }, { on := 60, ground := Go.Ground.chain }, { on := 60, ground := Go.Ground.guard }], guard := some (60, false) }) rfl (fun K hK => ?_) AllReadyH.nil
                         refine goes_ (N := some 126) («as» := #[.tmp 124, .tmp 125]) Tryd.func19 (by kernel_rfl) rfl #[.agg (agC .u64 65 ff), .int .i64 a1] (by kernel_rfl) rfl rfl (by kernel_rfl) ?_
                         with_reducible refine (CO.out _).mono ?_
                         rintro e X ⟨rfl, hb⟩
                         refine ⟨_, rfl, ?_⟩
                         replace hX := Aside0.mk (below_step hX.out hb)
                         (try replace hC1 := Aside0.mk (Kd.C_below hC1.out hb))
                         (try replace hR1 := Aside0.mk (Kd.R_below hR1.out hb))
                         clear hb
                         refine hK.out _ _ ?_ (fun hHeld => ?_)
                         · exact hSl.out _ hX.out
                         clear hK K
                         try simp only [Act.put, List.setIfInBounds_toArray, List.set_cons_zero, List.set_cons_succ]
                         refine wpAnyH_take (i := 65) (oi := { dst := some 128, op := Go.Op.binOp Go.BinOp.eql 27 (Go.Operand.tmp 126) (Go.Operand.tmp 127) 27, type := 4, pos := "law.go:41", after := #[{ on := 63, ground := Go.Ground.data }, { on := 64, ground := Go.Ground.data }, { on := 60, ground := Go.Ground.guard }], guard := some (60, false) }) (v := ?_) rfl (by kernel_rfl) (by kernel_rfl) (by kernel_rfl) (fun _ _ _ h => h) (Or.inl ⟨by kernel_rfl, ?_⟩) (by assumption) ?_
                         rotate_left
                         · intro W hSw; go_simp; first | done | with_reducible rfl
                         try simp only [Act.put, List.setIfInBounds_toArray, List.set_cons_zero, List.set_cons_succ]
                         refine wpAnyH_take (i := 66) (oi := { dst := some 129, op := Go.Op.pick (Go.Operand.tmp 123) (Go.Operand.const (Go.Value.bool true)) (Go.Operand.tmp 128), type := 4, pos := "law.go:41", after := #[{ on := 60, ground := Go.Ground.data }, { on := 65, ground := Go.Ground.data }, { on := 58, ground := Go.Ground.guard }], guard := some (58, true) }) (v := ?_) rfl (by kernel_rfl) (by kernel_rfl) (by kernel_rfl) (fun _ _ _ h => h) (Or.inl ⟨by kernel_rfl, ?_⟩) (by assumption) ?_
                         rotate_left
                         · intro W hSw; go_simp; first | done | with_reducible rfl
                         try simp only [Act.put, List.setIfInBounds_toArray, List.set_cons_zero, List.set_cons_succ]
                         refine wpAnyH_take (i := 67) (oi := { dst := some 130, op := Go.Op.pick (Go.Operand.tmp 121) (Go.Operand.tmp 129) (Go.Operand.const (Go.Value.bool false)), type := 4, pos := "law.go:41", after := #[{ on := 58, ground := Go.Ground.data }, { on := 66, ground := Go.Ground.data }], guard := none }) (v := ?_) rfl (by kernel_rfl) (by kernel_rfl) (by kernel_rfl) (fun _ _ _ h => h) (Or.inl ⟨by kernel_rfl, ?_⟩) (by assumption) ?_
                         rotate_left
                         · intro W hSw; go_simp; first | done | with_reducible rfl
                         try simp only [Act.put, List.setIfInBounds_toArray, List.set_cons_zero, List.set_cons_succ]
                         refine wpAnyH_ready (rs := [68]) (by kernel_rfl) (by simp) ?_
                         refine AllReadyH.cons (o := { dst := none, op := Go.Op.store 4 (Go.Operand.tmp 6) (Go.Operand.tmp 130), type := 0, pos := "law.go:41", after := ([{ on := 67, ground := Go.Ground.data }, { on := 63, ground := Go.Ground.chain }, { on := 0, ground := Go.Ground.phase }, { on := 1, ground := Go.Ground.phase }, { on := 2, ground := Go.Ground.phase }, { on := 3, ground := Go.Ground.phase }, { on := 4, ground := Go.Ground.phase }, { on := 5, ground := Go.Ground.phase }, { on := 6, ground := Go.Ground.phase }, { on := 7, ground := Go.Ground.phase }, { on := 8, ground := Go.Ground.phase }, { on := 9, ground := Go.Ground.phase }, { on := 10, ground := Go.Ground.phase }, { on := 11, ground := Go.Ground.phase }, { on := 12, ground := Go.Ground.phase }, { on := 13, ground := Go.Ground.phase }, { on := 14, ground := Go.Ground.phase }, { on := 15, ground := Go.Ground.phase }, { on := 16, ground := Go.Ground.phase }, { on := 17, ground := Go.Ground.phase }, { on := 18, ground := Go.Ground.phase }, { on := 19, ground := Go.Ground.phase }, { on := 20, ground := Go.Ground.phase }, { on := 21, ground := Go.Ground.phase }, { on := 22, ground := Go.Ground.phase }, { on := 23, ground := Go.Ground.phase }, { on := 24, ground := Go.Ground.phase }, { on := 25, ground := Go.Ground.phase }, { on := 26, ground := Go.Ground.phase }, { on := 27, ground := Go.Ground.phase }, { on := 28, ground := Go.Ground.phase }, { on := 29, ground := Go.Ground.phase }, { on := 30, ground := Go.Ground.phase }, { on := 31, ground := Go.Ground.phase }, { on := 32, ground := Go.Ground.phase }].append [{ on := 33, ground := Go.Ground.phase }, { on := 34, ground := Go.Ground.phase }, { on := 35, ground := Go.Ground.phase }, { on := 36, ground := Go.Ground.phase }, { on := 37, ground := Go.Ground.phase }, { on := 38, ground := Go.Ground.phase }, { on := 39, ground := Go.Ground.phase }, { on := 40, ground := Go.Ground.phase }, { on := 41, ground := Go.Ground.phase }, { on := 42, ground := Go.Ground.phase }, { on := 43, ground := Go.Ground.phase }, { on := 44, ground := Go.Ground.phase }, { on := 45, ground := Go.Ground.phase }, { on := 46, ground := Go.Ground.phase }, { on := 47, ground := Go.Ground.phase }, { on := 48, ground := Go.Ground.phase }, { on := 49, ground := Go.Ground.phase }, { on := 50, ground := Go.Ground.phase }, { on := 51, ground := Go.Ground.phase }, { on := 52, ground := Go.Ground.phase }, { on := 53, ground := Go.Ground.phase }, { on := 54, ground := Go.Ground.phase }, { on := 55, ground := Go.Ground.phase }, { on := 56, ground := Go.Ground.phase }, { on := 57, ground := Go.Ground.phase }, { on := 58, ground := Go.Ground.phase }, { on := 59, ground := Go.Ground.phase }, { on := 60, ground := Go.Ground.phase }, { on := 61, ground := Go.Ground.phase }, { on := 62, ground := Go.Ground.phase }, { on := 63, ground := Go.Ground.phase }, { on := 64, ground := Go.Ground.phase }, { on := 65, ground := Go.Ground.phase }, { on := 66, ground := Go.Ground.phase }, { on := 67, ground := Go.Ground.phase }]).toArray, guard := none }) rfl (fun K hK => ?_) AllReadyH.nil
                         have hc6 := (hS6.out _ hX.out).1
                         have hz6 := (hS6.out _ hX.out).2
                         go_simp
                         refine hK.out _ _ ?_ (fun hHeld => ?_)
                         · exact hSr.out _ hX.out
                         clear hK K
                         try simp only [Act.put, List.setIfInBounds_toArray, List.set_cons_zero, List.set_cons_succ]
                         as_aux_lemma =>
                          refine wpAnyH_done (by kernel_rfl) ?_ _
                          try simp only [Act.put, List.setIfInBounds_toArray, List.set_cons_zero, List.set_cons_succ, List.getElem_toArray, List.getElem_cons_zero, List.getElem_cons_succ]
                          refine NoPanic.normal ?_
                          (try dsimp only [Exit.then])
                          refine hKz.out _ _ ?_
                          go_wp2_with (fail)
                          have hKX := (Below.heap_setCell _ ⟨w.heap.size + 1, 0, none⟩ (Value.bool true) D (by show D ≠ w.heap.size + 1; omega)).trans (blk_below hKe.out hX.out)
                          refine ⟨by simp, .inl ⟨_, _, rfl, run_takeDeferred hKX, ?_⟩⟩
                          refine ⟨_, results_one rfl _ _ ⟨w.heap.size + 1, 0, none⟩ (.bool true) Tryd.underlying4 rfl (cell_kept (World.cell?_setCell_same' _ _ _ (by rw [hc6]; rfl)) (grownBy_putObj' _ D (.deferred none)) (fun r e => by cases e; exact ⟨_, hKX, rfl⟩)), rfl, ?_⟩
                          exact (below_set (below_step HBe.out hX.out) (by omega)).trans (belowK_b (w := w) (Nat.le_refl _) _ D _ _ (by omega) hKX rfl rfl)
                   · have hC1 := Aside0.mk (one_new hX.out a1 3)
                     (try replace hR1 := Aside0.mk (Kd.R_below hR1.out (below_alloc (Below.refl _ _) (.cells #[.int .i64 a1] 3 (0, 0)))))
                     replace hX := Aside0.mk (below_alloc hX.out (.cells #[.int .i64 a1] 3 (0, 0)))
                     go_simp
                     refine hK.out _ _ ?_ (fun hHeld => ?_)
                     · exact hSl.out _ hX.out
                     clear hK K
                     try simp only [Act.put, List.setIfInBounds_toArray, List.set_cons_zero, List.set_cons_succ]
                     as_aux_lemma =>
                      refine wpAnyH_ready (rs := [40]) (by kernel_rfl) (by simp) ?_
                      refine AllReadyH.cons (o := { dst := some 103, op := Go.Op.call { callee := Go.Callee.builtin Go.Builtin.append, args := #[Go.Operand.const (Go.Value.slice none 0 0), Go.Operand.tmp 102], argTypes := #[22, 22] }, type := 22, pos := "law.go:41", after := #[{ on := 39, ground := Go.Ground.data }, { on := 38, ground := Go.Ground.chain }, { on := 35, ground := Go.Ground.guard }], guard := some (35, true) }) rfl (fun K hK => ?_) AllReadyH.nil
                      refine Kd.R_append_rows_step (Kd.int .i64) we.heap.size (by kernel_rfl) (.const (.slice none 0 0)) (.tmp 102) 22 3 (.int .i64 0) 8 rfl Tryd.underlying22 (by kernel_rfl) rfl (by decide) (by decide) (.slice none 0 0) [] l0 A0 l0.length c0 (fun _ => True) (fun _ => False) rfl rfl (Kd.R_nil _ _ _ _ _) (Kd.C_below HRe.out hX.out) (fun x cs h => h) (fun _ h => h.elim) (fun _ _ => trivial) hX.out (below_size hX.out) (by simp; omega) ?_
                      intro v1 X1 hR1 hb1 hg1 _
                      rw [List.nil_append] at hR1
                      replace hX := Aside0.mk hb1
                      replace hR1 := Aside0.mk hR1
                      (try replace hC1 := Aside0.mk (Kd.C_below hC1.out ((Below.refl _ _).grown hg1 (Nat.le_refl _) (fun k e => by cases e))))
                      clear hb1 hg1
                      refine hK.out _ _ ?_ (fun hHeld => ?_)
                      · exact hSl.out _ hX.out
                      clear hK K
                      try simp only [Act.put, List.setIfInBounds_toArray, List.set_cons_zero, List.set_cons_succ]
                      refine wpAnyH_ready (rs := [43]) (by kernel_rfl) (by simp) ?_
                      refine AllReadyH.cons (o := { dst := some 106, op := Go.Op.call { callee := Go.Callee.builtin Go.Builtin.append, args := #[Go.Operand.tmp 103, Go.Operand.tmp 105], argTypes := #[22, 22] }, type := 22, pos := "law.go:41", after := #[{ on := 40, ground := Go.Ground.data }, { on := 42, ground := Go.Ground.data }, { on := 40, ground := Go.Ground.chain }, { on := 35, ground := Go.Ground.guard }], guard := some (35, true) }) rfl (fun K hK => ?_) AllReadyH.nil
                      refine Kd.R_append_rows_step (Kd.int .i64) we.heap.size (by kernel_rfl) (.tmp 103) (.tmp 105) 22 3 (.int .i64 0) 8 rfl Tryd.underlying22 (by kernel_rfl) rfl (by decide) (by decide) v1 l0 [a1] _ 1 1 (fun _ => True) (fun _ => False) rfl rfl hR1.out hC1.out (fun x cs h => h) (fun _ h => h.elim) (fun _ _ => trivial) hX.out (below_size hX.out) (by omega) ?_
                      intro v2 X2 hR2 hb2 _ _
                      replace hX := Aside0.mk hb2
                      obtain ⟨A2, c2, rfl, hc2, hC2⟩ := Kd.R_reads hR2
                      replace hC2 := Aside0.mk hC2
                      clear hb2 hR2 hR1 hC1
                      refine hK.out _ _ ?_ (fun hHeld => ?_)
                      · exact hSl.out _ hX.out
                      clear hK K
                      try simp only [Act.put, List.setIfInBounds_toArray, List.set_cons_zero, List.set_cons_succ]
                      as_aux_lemma =>
                       refine wpAnyH_ready (rs := [44]) (by kernel_rfl) (by simp) ?_
                       refine AllReadyH.cons (o := { dst := some 107, op := Go.Op.call { callee := Go.Callee.value (Go.Operand.func 10), args := #[Go.Operand.tmp 106], argTypes := #[22] }, type := 27, pos := "law.go:41", after := #[{ on := 43, ground := Go.Ground.data }, { on := 43, ground := Go.Ground.chain }, { on := 35, ground := Go.Ground.guard }], guard := some (35, true) }) rfl (fun K hK => ?_) AllReadyH.nil
                       refine goes_ (N := some 107) («as» := #[.tmp 106]) Tryd.func10 (by kernel_rfl) rfl #[.slice A2 (l0 ++ [a1]).length c2] (by kernel_rfl) rfl rfl (by kernel_rfl) ?_
                       with_reducible refine (COf.out A2 c2 _ hC2.out hc2).mono ?_
                       rintro e X ⟨rfl, hb⟩
                       refine ⟨_, rfl, ?_⟩
                       replace hX := Aside0.mk (below_step hX.out hb)
                       clear hb hC2 hc2
                       refine hK.out _ _ ?_ (fun hHeld => ?_)
                       · exact hSl.out _ hX.out
                       clear hK K
                       try simp only [Act.put, List.setIfInBounds_toArray, List.set_cons_zero, List.set_cons_succ]
                       refine wpAnyH_take (i := 45) (oi := { dst := some 108, op := Go.Op.binOp Go.BinOp.eql 27 (Go.Operand.tmp 101) (Go.Operand.tmp 107) 27, type := 4, pos := "law.go:41", after := #[{ on := 38, ground := Go.Ground.data }, { on := 44, ground := Go.Ground.data }, { on := 35, ground := Go.Ground.guard }], guard := some (35, true) }) (v := ?_) rfl (by kernel_rfl) (by kernel_rfl) (by kernel_rfl) (fun _ _ _ h => h) (Or.inl ⟨by kernel_rfl, ?_⟩) (by assumption) ?_
                       rotate_left
                       · intro W hSw; go_simp; first | done | with_reducible rfl
                       try simp only [Act.put, List.setIfInBounds_toArray, List.set_cons_zero, List.set_cons_succ]
                       refine wpAnyH_take (i := 46) (oi := { dst := some 109, op := Go.Op.pick (Go.Operand.tmp 98) (Go.Operand.tmp 108) (Go.Operand.const (Go.Value.bool false)), type := 4, pos := "law.go:41", after := #[{ on := 35, ground := Go.Ground.data }, { on := 45, ground := Go.Ground.data }], guard := none }) (v := ?_) rfl (by kernel_rfl) (by kernel_rfl) (by kernel_rfl) (fun _ _ _ h => h) (Or.inl ⟨by kernel_rfl, ?_⟩) (by assumption) ?_
                       rotate_left
                       · intro W hSw; go_simp; first | done | with_reducible rfl
                       try simp only [Act.put, List.setIfInBounds_toArray, List.set_cons_zero, List.set_cons_succ]
                       refine wpAnyH_take (i := 47) (oi := { dst := some 110, op := Go.Op.move (Go.Operand.tmp 109), type := 4, pos := "law.go:41", after := #[{ on := 46, ground := Go.Ground.data }, { on := 44, ground := Go.Ground.chain }], guard := none }) (v := ?_) rfl (by kernel_rfl) (by kernel_rfl) (by kernel_rfl) (fun _ _ _ h => h) (Or.inl ⟨by kernel_rfl, ?_⟩) (by assumption) ?_
                       rotate_left
                       · intro W hSw; go_simp; first | done | with_reducible rfl
                       try simp only [Act.put, List.setIfInBounds_toArray, List.set_cons_zero, List.set_cons_succ]
                       refine wpAnyH_take (i := 48) (oi := { dst := some 111, op := Go.Op.load 27 (Go.Operand.tmp 7), type := 27, pos := "law.go:41", after := #[{ on := 47, ground := Go.Ground.guard }], guard := some (47, true) }) (v := ?_) rfl (by kernel_rfl) (by kernel_rfl) (by kernel_rfl) (fun _ _ _ h => h) (Or.inl ⟨by kernel_rfl, ?_⟩) (by assumption) ?_
                       rotate_left
                       · intro W hSw; go_simp; first | done | with_reducible rfl
                       try simp only [Act.put, List.setIfInBounds_toArray, List.set_cons_zero, List.set_cons_succ]
                       refine wpAnyH_take (i := 49) (oi := { dst := some 112, op := Go.Op.move (Go.Operand.tmp 1), type := 3, pos := "law.go:41", after := #[{ on := 47, ground := Go.Ground.guard }], guard := some (47, true) }) (v := ?_) rfl (by kernel_rfl) (by kernel_rfl) (by kernel_rfl) (fun _ _ _ h => h) (Or.inl ⟨by kernel_rfl, ?_⟩) (by assumption) ?_
                       rotate_left
                       · intro W hSw; go_simp; first | done | with_reducible rfl
                       try simp only [Act.put, List.setIfInBounds_toArray, List.set_cons_zero, List.set_cons_succ]
                       refine wpAnyH_take (i := 51) (oi := { dst := some 114, op := Go.Op.move (Go.Operand.tmp 1), type := 3, pos := "law.go:41", after := #[{ on := 47, ground := Go.Ground.guard }], guard := some (47, true) }) (v := ?_) rfl (by kernel_rfl) (by kernel_rfl) (by kernel_rfl) (fun _ _ _ h => h) (Or.inl ⟨by kernel_rfl, ?_⟩) (by assumption) ?_
                       rotate_left
                       · intro W hSw; go_simp; first | done | with_reducible rfl
                       try simp only [Act.put, List.setIfInBounds_toArray, List.set_cons_zero, List.set_cons_succ]
                       refine wpAnyH_take (i := 53) (oi := { dst := some 116, op := Go.Op.move (Go.Operand.tmp 1), type := 3, pos := "law.go:41", after := #[{ on := 47, ground := Go.Ground.guard }], guard := some (47, true) }) (v := ?_) rfl (by kernel_rfl) (by kernel_rfl) (by kernel_rfl) (fun _ _ _ h => h) (Or.inl ⟨by kernel_rfl, ?_⟩) (by assumption) ?_
                       rotate_left
                       · intro W hSw; go_simp; first | done | with_reducible rfl
                       try simp only [Act.put, List.setIfInBounds_toArray, List.set_cons_zero, List.set_cons_succ]
                       refine wpAnyH_take (i := 55) (oi := { dst := some 118, op := Go.Op.move (Go.Operand.tmp 11), type := 4, pos := "law.go:41", after := #[{ on := 47, ground := Go.Ground.guard }], guard := some (47, true) }) (v := ?_) rfl (by kernel_rfl) (by kernel_rfl) (by kernel_rfl) (fun _ _ _ h => h) (Or.inl ⟨by kernel_rfl, ?_⟩) (by assumption) ?_
                       rotate_left
                       · intro W hSw; go_simp; first | done | with_reducible rfl
                       try simp only [Act.put, List.setIfInBounds_toArray, List.set_cons_zero, List.set_cons_succ]
                       refine wpAnyH_ready (rs := [50]) (by kernel_rfl) (by simp) ?_
                       refine AllReadyH.cons (o := { dst := some 113, op := Go.Op.call { callee := Go.Callee.value (Go.Operand.func 19), args := #[Go.Operand.tmp 111, Go.Operand.tmp 112], argTypes := #[27, 3] }, type := 27, pos := "law.go:41", after := #[{ on := 48, ground := Go.Ground.data }, { on := 49, ground := Go.Ground.data }, { on := 47, ground := Go.Ground.chain }, { on := 47, ground := Go.Ground.guard }], guard := some (47, true) }) rfl (fun K hK => ?_) AllReadyH.nil
                       refine goes_ (N := some 113) («as» := #[.tmp 111, .tmp 112]) Tryd.func19 (by kernel_rfl) rfl #[.agg (agC .u64 65 ff), .int .i64 a1] (by kernel_rfl) rfl rfl (by kernel_rfl) ?_
                       with_reducible refine (CO.out _).mono ?_
                       rintro e X ⟨rfl, hb⟩
                       refine ⟨_, rfl, ?_⟩
                       replace hX := Aside0.mk (below_step hX.out hb)
                       (try replace hC1 := Aside0.mk (Kd.C_below hC1.out hb))
                       (try replace hR1 := Aside0.mk (Kd.R_below hR1.out hb))
                       clear hb
                       refine hK.out _ _ ?_ (fun hHeld => ?_)
                       · exact hSl.out _ hX.out
                       clear hK K
                       try simp only [Act.put, List.setIfInBounds_toArray, List.set_cons_zero, List.set_cons_succ]
                       as_aux_lemma =>
                        refine wpAnyH_ready (rs := [52]) (by kernel_rfl) (by simp) ?_
                        refine AllReadyH.cons (o := { dst := some 115, op := Go.Op.call { callee := Go.Callee.value (Go.Operand.func 18), args := #[Go.Operand.tmp 113, Go.Operand.tmp 114], argTypes := #[27, 3] }, type := 27, pos := "law.go:41", after := #[{ on := 50, ground := Go.Ground.data }, { on := 51, ground := Go.Ground.data }, { on := 50, ground := Go.Ground.chain }, { on := 47, ground := Go.Ground.guard }], guard := some (47, true) }) rfl (fun K hK => ?_) AllReadyH.nil
                        refine goes_ (N := some 115) («as» := #[.tmp 113, .tmp 114]) Tryd.func18 (by kernel_rfl) rfl #[.agg (agC .u64 65 fWo), .int .i64 a1] (by kernel_rfl) rfl rfl (by kernel_rfl) ?_
                        with_reducible refine (CWW.out _).mono ?_
                        rintro e X ⟨rfl, hb⟩
                        refine ⟨_, rfl, ?_⟩
                        replace hX := Aside0.mk (below_step hX.out hb)
                        (try replace hC1 := Aside0.mk (Kd.C_below hC1.out hb))
                        (try replace hR1 := Aside0.mk (Kd.R_below hR1.out hb))
                        clear hb
                        refine hK.out _ _ ?_ (fun hHeld => ?_)
                        · exact hSl.out _ hX.out
                        clear hK K
                        try simp only [Act.put, List.setIfInBounds_toArray, List.set_cons_zero, List.set_cons_succ]
                        refine wpAnyH_ready (rs := [54]) (by kernel_rfl) (by simp) ?_
                        refine AllReadyH.cons (o := { dst := some 117, op := Go.Op.call { callee := Go.Callee.value (Go.Operand.func 17), args := #[Go.Operand.tmp 115, Go.Operand.tmp 116], argTypes := #[27, 3] }, type := 4, pos := "law.go:41", after := #[{ on := 52, ground := Go.Ground.data }, { on := 53, ground := Go.Ground.data }, { on := 52, ground := Go.Ground.chain }, { on := 47, ground := Go.Ground.guard }], guard := some (47, true) }) rfl (fun K hK => ?_) AllReadyH.nil
                        refine goes_ (N := some 117) («as» := #[.tmp 115, .tmp 116]) Tryd.func17 (by kernel_rfl) rfl #[.agg (agC .u64 65 fWW), .int .i64 a1] (by kernel_rfl) rfl rfl (by kernel_rfl) ?_
                        with_reducible refine (CHWW.out _).mono ?_
                        rintro e X ⟨rfl, hb⟩
                        refine ⟨_, rfl, ?_⟩
                        replace hX := Aside0.mk (below_step hX.out hb)
                        (try replace hC1 := Aside0.mk (Kd.C_below hC1.out hb))
                        (try replace hR1 := Aside0.mk (Kd.R_below hR1.out hb))
                        clear hb
                        refine hK.out _ _ ?_ (fun hHeld => ?_)
                        · exact hSl.out _ hX.out
                        clear hK K
                        try simp only [Act.put, List.setIfInBounds_toArray, List.set_cons_zero, List.set_cons_succ]
                        as_aux_lemma =>
                         refine wpAnyH_take (i := 56) (oi := { dst := some 119, op := Go.Op.binOp Go.BinOp.eql 4 (Go.Operand.tmp 117) (Go.Operand.tmp 118) 4, type := 4, pos := "law.go:41", after := #[{ on := 54, ground := Go.Ground.data }, { on := 55, ground := Go.Ground.data }, { on := 47, ground := Go.Ground.guard }], guard := some (47, true) }) (v := ?_) rfl (by kernel_rfl) (by kernel_rfl) (by kernel_rfl) (fun _ _ _ h => h) (Or.inl ⟨by kernel_rfl, ?_⟩) (by assumption) ?_
                         rotate_left
                         · intro W hSw; go_simp; first | done | with_reducible rfl
                         try simp only [Act.put, List.setIfInBounds_toArray, List.set_cons_zero, List.set_cons_succ]
                         refine wpAnyH_take (i := 57) (oi := { dst := some 120, op := Go.Op.pick (Go.Operand.tmp 110) (Go.Operand.tmp 119) (Go.Operand.const (Go.Value.bool false)), type := 4, pos := "law.go:41", after := #[{ on := 47, ground := Go.Ground.data }, { on := 56, ground := Go.Ground.data }], guard := none }) (v := ?_) rfl (by kernel_rfl) (by kernel_rfl) (by kernel_rfl) (fun _ _ _ h => h) (Or.inl ⟨by kernel_rfl, ?_⟩) (by assumption) ?_
                         rotate_left
                         · intro W hSw; go_simp; first | done | with_reducible rfl
                         try simp only [Act.put, List.setIfInBounds_toArray, List.set_cons_zero, List.set_cons_succ]
                         refine wpAnyH_take (i := 58) (oi := { dst := some 121, op := Go.Op.move (Go.Operand.tmp 120), type := 4, pos := "law.go:41", after := #[{ on := 57, ground := Go.Ground.data }, { on := 54, ground := Go.Ground.chain }], guard := none }) (v := ?_) rfl (by kernel_rfl) (by kernel_rfl) (by kernel_rfl) (fun _ _ _ h => h) (Or.inl ⟨by kernel_rfl, ?_⟩) (by assumption) ?_
                         rotate_left
                         · intro W hSw; go_simp; first | done | with_reducible rfl
                         try simp only [Act.put, List.setIfInBounds_toArray, List.set_cons_zero, List.set_cons_succ]
                         refine wpAnyH_take (i := 59) (oi := { dst := some 122, op := Go.Op.move (Go.Operand.tmp 12), type := 4, pos := "law.go:41", after := #[{ on := 58, ground := Go.Ground.guard }], guard := some (58, true) }) (v := ?_) rfl (by kernel_rfl) (by kernel_rfl) (by kernel_rfl) (fun _ _ _ h => h) (Or.inl ⟨by kernel_rfl, ?_⟩) (by assumption) ?_
                         rotate_left
                         · intro W hSw; go_simp; first | done | with_reducible rfl
                         try simp only [Act.put, List.setIfInBounds_toArray, List.set_cons_zero, List.set_cons_succ]
                         refine wpAnyH_take (i := 60) (oi := { dst := some 123, op := Go.Op.move (Go.Operand.tmp 122), type := 4, pos := "law.go:41", after := #[{ on := 59, ground := Go.Ground.data }, { on := 58, ground := Go.Ground.chain }, { on := 58, ground := Go.Ground.guard }], guard := some (58, true) }) (v := ?_) rfl (by kernel_rfl) (by kernel_rfl) (by kernel_rfl) (fun _ _ _ h => h) (Or.inl ⟨by kernel_rfl, ?_⟩) (by assumption) ?_
                         rotate_left
                         · intro W hSw; go_simp; first | done | with_reducible rfl
                         try simp only [Act.put, List.setIfInBounds_toArray, List.set_cons_zero, List.set_cons_succ]
                         refine wpAnyH_take (i := 61) (oi := { dst := some 124, op := Go.Op.load 27 (Go.Operand.tmp 7), type := 27, pos := "law.go:41", after := #[{ on := 60, ground := Go.Ground.guard }], guard := some (60, false) }) (v := ?_) rfl (by kernel_rfl) (by kernel_rfl) (by kernel_rfl) (fun _ _ _ h => h) (Or.inl ⟨by kernel_rfl, ?_⟩) (by assumption) ?_
                         rotate_left
                         · intro W hSw; go_simp; first | done | with_reducible rfl
                         try simp only [Act.put, List.setIfInBounds_toArray, List.set_cons_zero, List.set_cons_succ]
                         refine wpAnyH_take (i := 62) (oi := { dst := some 125, op := Go.Op.move (Go.Operand.tmp 1), type := 3, pos := "law.go:41", after := #[{ on := 60, ground := Go.Ground.guard }], guard := some (60, false) }) (v := ?_) rfl (by kernel_rfl) (by kernel_rfl) (by kernel_rfl) (fun _ _ _ h => h) (Or.inl ⟨by kernel_rfl, ?_⟩) (by assumption) ?_
                         rotate_left
                         · intro W hSw; go_simp; first | done | with_reducible rfl
                         try simp only [Act.put, List.setIfInBounds_toArray, List.set_cons_zero, List.set_cons_succ]
                         refine wpAnyH_take (i := 64) (oi := { dst := some 127, op := Go.Op.load 27 (Go.Operand.tmp 7), type := 27, pos := "law.go:41", after := #[{ on := 60, ground := Go.Ground.guard }], guard := some (60, false) }) (v := ?_) rfl (by kernel_rfl) (by kernel_rfl) (by kernel_rfl) (fun _ _ _ h => h) (Or.inl ⟨by kernel_rfl, ?_⟩) (by assumption) ?_
                         rotate_left
                         · intro W hSw; go_simp; first | done | with_reducible rfl
                         try simp only [Act.put, List.setIfInBounds_toArray, List.set_cons_zero, List.set_cons_succ]
                         refine wpAnyH_ready (rs := [63]) (by kernel_rfl) (by simp) ?_
                         refine AllReadyH.cons (o := { dst := some 126, op := Go.Op.call { callee := Go.Callee.value (Go.Operand.func 19), args := #[Go.Operand.tmp 124, Go.Operand.tmp 125], argTypes := #[27, 3] }, type := 27, pos := "law.go:41", after := #[{ on := 61, ground := Go.Ground.data }, { on := 62, ground := Go.Ground.data }, { on := 60, ground := Go.Ground.chain }, { on := 60, ground := Go.Ground.guard }], guard := some (60, false) }) rfl (fun K hK => ?_) AllReadyH.nil
                         refine goes_ (N := some 126) («as» := #[.tmp 124, .tmp 125]) Tryd.func19 (by kernel_rfl) rfl #[.agg (agC .u64 65 ff), .int .i64 a1] (by kernel_rfl) rfl rfl (by kernel_rfl) ?_
                         with_reducible refine (CO.out _).mono ?_
                         rintro e X ⟨rfl, hb⟩
                         refine ⟨_, rfl, ?_⟩
                         replace hX := Aside0.mk (below_step hX.out hb)
                         (try replace hC1 := Aside0.mk (Kd.C_below hC1.out hb))
                         (try replace hR1 := Aside0.mk (Kd.R_below hR1.out hb))
                         clear hb
                         refine hK.out _ _ ?_ (fun hHeld => ?_)
                         · exact hSl.out _ hX.out
                         clear hK K
                         try simp only [Act.put, List.setIfInBounds_toArray, List.set_cons_zero, List.set_cons_succ]
                         refine wpAnyH_take (i := 65) (oi := { dst := some 128, op := Go.Op.binOp Go.BinOp.eql 27 (Go.Operand.tmp 126) (Go.Operand.tmp 127) 27, type := 4, pos := "law.go:41", after := #[{ on := 63, ground := Go.Ground.data }, { on := 64, ground := Go.Ground.data }, { on := 60, ground := Go.Ground.guard }], guard := some (60, false) }) (v := ?_) rfl (by kernel_rfl) (by kernel_rfl) (by kernel_rfl) (fun _ _ _ h => h) (Or.inl ⟨by kernel_rfl, ?_⟩) (by assumption) ?_
                         rotate_left
                         · intro W hSw; go_simp; first | done | with_reducible rfl
                         try simp only [Act.put, List.setIfInBounds_toArray, List.set_cons_zero, List.set_cons_succ]
                         refine wpAnyH_take (i := 66) (oi := { dst := some 129, op := Go.Op.pick (Go.Operand.tmp 123) (Go.Operand.const (Go.Value.bool true)) (Go.Operand.tmp 128), type := 4, pos := "law.go:41", after := #[{ on := 60, ground := Go.Ground.data }, { on := 65, ground := Go.Ground.data }, { on := 58, ground := Go.Ground.guard }], guard := some (58, true) }) (v := ?_) rfl (by kernel_rfl) (by kernel_rfl) (by kernel_rfl) (fun _ _ _ h => h) (Or.inl ⟨by kernel_rfl, ?_⟩) (by assumption) ?_
                         rotate_left
                         · intro W hSw; go_simp; first | done | with_reducible rfl
                         try simp only [Act.put, List.setIfInBounds_toArray, List.set_cons_zero, List.set_cons_succ]
                         refine wpAnyH_take (i := 67) (oi := { dst := some 130, op := Go.Op.pick (Go.Operand.tmp 121) (Go.Operand.tmp 129) (Go.Operand.const (Go.Value.bool false)), type := 4, pos := "law.go:41", after := #[{ on := 58, ground := Go.Ground.data }, { on := 66, ground := Go.Ground.data }], guard := none }) (v := ?_) rfl (by kernel_rfl) (by kernel_rfl) (by kernel_rfl) (fun _ _ _ h => h) (Or.inl ⟨by kernel_rfl, ?_⟩) (by assumption) ?_
                         rotate_left
                         · intro W hSw; go_simp; first | done | with_reducible rfl
                         try simp only [Act.put, List.setIfInBounds_toArray, List.set_cons_zero, List.set_cons_succ]
                         refine wpAnyH_ready (rs := [68]) (by kernel_rfl) (by simp) ?_
                         refine AllReadyH.cons (o := { dst := none, op := Go.Op.store 4 (Go.Operand.tmp 6) (Go.Operand.tmp 130), type := 0, pos := "law.go:41", after := ([{ on := 67, ground := Go.Ground.data }, { on := 63, ground := Go.Ground.chain }, { on := 0, ground := Go.Ground.phase }, { on := 1, ground := Go.Ground.phase }, { on := 2, ground := Go.Ground.phase }, { on := 3, ground := Go.Ground.phase }, { on := 4, ground := Go.Ground.phase }, { on := 5, ground := Go.Ground.phase }, { on := 6, ground := Go.Ground.phase }, { on := 7, ground := Go.Ground.phase }, { on := 8, ground := Go.Ground.phase }, { on := 9, ground := Go.Ground.phase }, { on := 10, ground := Go.Ground.phase }, { on := 11, ground := Go.Ground.phase }, { on := 12, ground := Go.Ground.phase }, { on := 13, ground := Go.Ground.phase }, { on := 14, ground := Go.Ground.phase }, { on := 15, ground := Go.Ground.phase }, { on := 16, ground := Go.Ground.phase }, { on := 17, ground := Go.Ground.phase }, { on := 18, ground := Go.Ground.phase }, { on := 19, ground := Go.Ground.phase }, { on := 20, ground := Go.Ground.phase }, { on := 21, ground := Go.Ground.phase }, { on := 22, ground := Go.Ground.phase }, { on := 23, ground := Go.Ground.phase }, { on := 24, ground := Go.Ground.phase }, { on := 25, ground := Go.Ground.phase }, { on := 26, ground := Go.Ground.phase }, { on := 27, ground := Go.Ground.phase }, { on := 28, ground := Go.Ground.phase }, { on := 29, ground := Go.Ground.phase }, { on := 30, ground := Go.Ground.phase }, { on := 31, ground := Go.Ground.phase }, { on := 32, ground := Go.Ground.phase }].append [{ on := 33, ground := Go.Ground.phase }, { on := 34, ground := Go.Ground.phase }, { on := 35, ground := Go.Ground.phase }, { on := 36, ground := Go.Ground.phase }, { on := 37, ground := Go.Ground.phase }, { on := 38, ground := Go.Ground.phase }, { on := 39, ground := Go.Ground.phase }, { on := 40, ground := Go.Ground.phase }, { on := 41, ground := Go.Ground.phase }, { on := 42, ground := Go.Ground.phase }, { on := 43, ground := Go.Ground.phase }, { on := 44, ground := Go.Ground.phase }, { on := 45, ground := Go.Ground.phase }, { on := 46, ground := Go.Ground.phase }, { on := 47, ground := Go.Ground.phase }, { on := 48, ground := Go.Ground.phase }, { on := 49, ground := Go.Ground.phase }, { on := 50, ground := Go.Ground.phase }, { on := 51, ground := Go.Ground.phase }, { on := 52, ground := Go.Ground.phase }, { on := 53, ground := Go.Ground.phase }, { on := 54, ground := Go.Ground.phase }, { on := 55, ground := Go.Ground.phase }, { on := 56, ground := Go.Ground.phase }, { on := 57, ground := Go.Ground.phase }, { on := 58, ground := Go.Ground.phase }, { on := 59, ground := Go.Ground.phase }, { on := 60, ground := Go.Ground.phase }, { on := 61, ground := Go.Ground.phase }, { on := 62, ground := Go.Ground.phase }, { on := 63, ground := Go.Ground.phase }, { on := 64, ground := Go.Ground.phase }, { on := 65, ground := Go.Ground.phase }, { on := 66, ground := Go.Ground.phase }, { on := 67, ground := Go.Ground.phase }]).toArray, guard := none }) rfl (fun K hK => ?_) AllReadyH.nil
                         have hc6 := (hS6.out _ hX.out).1
                         have hz6 := (hS6.out _ hX.out).2
                         go_simp
                         refine hK.out _ _ ?_ (fun hHeld => ?_)
                         · exact hSr.out _ hX.out
                         clear hK K
                         try simp only [Act.put, List.setIfInBounds_toArray, List.set_cons_zero, List.set_cons_succ]
                         as_aux_lemma =>
                          refine wpAnyH_done (by kernel_rfl) ?_ _
                          try simp only [Act.put, List.setIfInBounds_toArray, List.set_cons_zero, List.set_cons_succ, List.getElem_toArray, List.getElem_cons_zero, List.getElem_cons_succ]
                          refine NoPanic.normal ?_
                          (try dsimp only [Exit.then])
                          refine hKz.out _ _ ?_
                          go_wp2_with (fail)
                          have hKX := (Below.heap_setCell _ ⟨w.heap.size + 1, 0, none⟩ (Value.bool true) D (by show D ≠ w.heap.size + 1; omega)).trans (blk_below hKe.out hX.out)
                          refine ⟨by simp, .inl ⟨_, _, rfl, run_takeDeferred hKX, ?_⟩⟩
                          refine ⟨_, results_one rfl _ _ ⟨w.heap.size + 1, 0, none⟩ (.bool true) Tryd.underlying4 rfl (cell_kept (World.cell?_setCell_same' _ _ _ (by rw [hc6]; rfl)) (grownBy_putObj' _ D (.deferred none)) (fun r e => by cases e; exact ⟨_, hKX, rfl⟩)), rfl, ?_⟩
                          exact (below_set (below_step HBe.out hX.out) (by omega)).trans (belowK_b (w := w) (Nat.le_refl _) _ D _ _ (by omega) hKX rfl rfl)
                · have hC1 := Aside0.mk (one_new hX.out a1 3)
                  (try replace hR1 := Aside0.mk (Kd.R_below hR1.out (below_alloc (Below.refl _ _) (.cells #[.int .i64 a1] 3 (0, 0)))))
                  replace hX := Aside0.mk (below_alloc hX.out (.cells #[.int .i64 a1] 3 (0, 0)))
                  go_simp
                  refine hK.out _ _ ?_ (fun hHeld => ?_)
                  · exact hSl.out _ hX.out
                  clear hK K
                  try simp only [Act.put, List.setIfInBounds_toArray, List.set_cons_zero, List.set_cons_succ]
                  as_aux_lemma =>
                   refine wpAnyH_ready (rs := [38]) (by kernel_rfl) (by simp) ?_
                   refine AllReadyH.cons (o := { dst := some 101, op := Go.Op.call { callee := Go.Callee.value (Go.Operand.func 18), args := #[Go.Operand.tmp 99, Go.Operand.tmp 100], argTypes := #[27, 3] }, type := 27, pos := "law.go:41", after := #[{ on := 36, ground := Go.Ground.data }, { on := 37, ground := Go.Ground.data }, { on := 35, ground := Go.Ground.chain }, { on := 35, ground := Go.Ground.guard }], guard := some (35, true) }) rfl (fun K hK => ?_) AllReadyH.nil
                   refine goes_ (N := some 101) («as» := #[.tmp 99, .tmp 100]) Tryd.func18 (by kernel_rfl) rfl #[.agg (agC .u64 65 ff), .int .i64 a1] (by kernel_rfl) rfl rfl (by kernel_rfl) ?_
                   with_reducible refine (CW.out _).mono ?_
                   rintro e X ⟨rfl, hb⟩
                   refine ⟨_, rfl, ?_⟩
                   replace hX := Aside0.mk (below_step hX.out hb)
                   (try replace hC1 := Aside0.mk (Kd.C_below hC1.out hb))
                   (try replace hR1 := Aside0.mk (Kd.R_below hR1.out hb))
                   clear hb
                   refine hK.out _ _ ?_ (fun hHeld => ?_)
                   · exact hSl.out _ hX.out
                   clear hK K
                   try simp only [Act.put, List.setIfInBounds_toArray, List.set_cons_zero, List.set_cons_succ]
                   as_aux_lemma =>
                    refine wpAnyH_ready (rs := [40]) (by kernel_rfl) (by simp) ?_
                    refine AllReadyH.cons (o := { dst := some 103, op := Go.Op.call { callee := Go.Callee.builtin Go.Builtin.append, args := #[Go.Operand.const (Go.Value.slice none 0 0), Go.Operand.tmp 102], argTypes := #[22, 22] }, type := 22, pos := "law.go:41", after := #[{ on := 39, ground := Go.Ground.data }, { on := 38, ground := Go.Ground.chain }, { on := 35, ground := Go.Ground.guard }], guard := some (35, true) }) rfl (fun K hK => ?_) AllReadyH.nil
                    refine Kd.R_append_rows_step (Kd.int .i64) we.heap.size (by kernel_rfl) (.const (.slice none 0 0)) (.tmp 102) 22 3 (.int .i64 0) 8 rfl Tryd.underlying22 (by kernel_rfl) rfl (by decide) (by decide) (.slice none 0 0) [] l0 A0 l0.length c0 (fun _ => True) (fun _ => False) rfl rfl (Kd.R_nil _ _ _ _ _) (Kd.C_below HRe.out hX.out) (fun x cs h => h) (fun _ h => h.elim) (fun _ _ => trivial) hX.out (below_size hX.out) (by simp; omega) ?_
                    intro v1 X1 hR1 hb1 hg1 _
                    rw [List.nil_append] at hR1
                    replace hX := Aside0.mk hb1
                    replace hR1 := Aside0.mk hR1
                    (try replace hC1 := Aside0.mk (Kd.C_below hC1.out ((Below.refl _ _).grown hg1 (Nat.le_refl _) (fun k e => by cases e))))
                    clear hb1 hg1
                    refine hK.out _ _ ?_ (fun hHeld => ?_)
                    · exact hSl.out _ hX.out
                    clear hK K
                    try simp only [Act.put, List.setIfInBounds_toArray, List.set_cons_zero, List.set_cons_succ]
                    refine wpAnyH_ready (rs := [43]) (by kernel_rfl) (by simp) ?_
                    refine AllReadyH.cons (o := { dst := some 106, op := Go.Op.call { callee := Go.Callee.builtin Go.Builtin.append, args := #[Go.Operand.tmp 103, Go.Operand.tmp 105], argTypes := #[22, 22] }, type := 22, pos := "law.go:41", after := #[{ on := 40, ground := Go.Ground.data }, { on := 42, ground := Go.Ground.data }, { on := 40, ground := Go.Ground.chain }, { on := 35, ground := Go.Ground.guard }], guard := some (35, true) }) rfl (fun K hK => ?_) AllReadyH.nil
                    refine Kd.R_append_rows_step (Kd.int .i64) we.heap.size (by kernel_rfl) (.tmp 103) (.tmp 105) 22 3 (.int .i64 0) 8 rfl Tryd.underlying22 (by kernel_rfl) rfl (by decide) (by decide) v1 l0 [a1] _ 1 1 (fun _ => True) (fun _ => False) rfl rfl hR1.out hC1.out (fun x cs h => h) (fun _ h => h.elim) (fun _ _ => trivial) hX.out (below_size hX.out) (by omega) ?_
                    intro v2 X2 hR2 hb2 _ _
                    replace hX := Aside0.mk hb2
                    obtain ⟨A2, c2, rfl, hc2, hC2⟩ := Kd.R_reads hR2
                    replace hC2 := Aside0.mk hC2
                    clear hb2 hR2 hR1 hC1
                    refine hK.out _ _ ?_ (fun hHeld => ?_)
                    · exact hSl.out _ hX.out
                    clear hK K
                    try simp only [Act.put, List.setIfInBounds_toArray, List.set_cons_zero, List.set_cons_succ]
                    as_aux_lemma =>
                     refine wpAnyH_ready (rs := [44]) (by kernel_rfl) (by simp) ?_
                     refine AllReadyH.cons (o := { dst := some 107, op := Go.Op.call { callee := Go.Callee.value (Go.Operand.func 10), args := #[Go.Operand.tmp 106], argTypes := #[22] }, type := 27, pos := "law.go:41", after := #[{ on := 43, ground := Go.Ground.data }, { on := 43, ground := Go.Ground.chain }, { on := 35, ground := Go.Ground.guard }], guard := some (35, true) }) rfl (fun K hK => ?_) AllReadyH.nil
                     refine goes_ (N := some 107) («as» := #[.tmp 106]) Tryd.func10 (by kernel_rfl) rfl #[.slice A2 (l0 ++ [a1]).length c2] (by kernel_rfl) rfl rfl (by kernel_rfl) ?_
                     with_reducible refine (COf.out A2 c2 _ hC2.out hc2).mono ?_
                     rintro e X ⟨rfl, hb⟩
                     refine ⟨_, rfl, ?_⟩
                     replace hX := Aside0.mk (below_step hX.out hb)
                     clear hb hC2 hc2
                     refine hK.out _ _ ?_ (fun hHeld => ?_)
                     · exact hSl.out _ hX.out
                     clear hK K
                     try simp only [Act.put, List.setIfInBounds_toArray, List.set_cons_zero, List.set_cons_succ]
                     refine wpAnyH_take (i := 45) (oi := { dst := some 108, op := Go.Op.binOp Go.BinOp.eql 27 (Go.Operand.tmp 101) (Go.Operand.tmp 107) 27, type := 4, pos := "law.go:41", after := #[{ on := 38, ground := Go.Ground.data }, { on := 44, ground := Go.Ground.data }, { on := 35, ground := Go.Ground.guard }], guard := some (35, true) }) (v := ?_) rfl (by kernel_rfl) (by kernel_rfl) (by kernel_rfl) (fun _ _ _ h => h) (Or.inl ⟨by kernel_rfl, ?_⟩) (by assumption) ?_
                     rotate_left
                     · intro W hSw; go_simp; first | done | with_reducible rfl
                     try simp only [Act.put, List.setIfInBounds_toArray, List.set_cons_zero, List.set_cons_succ]
                     refine wpAnyH_take (i := 46) (oi := { dst := some 109, op := Go.Op.pick (Go.Operand.tmp 98) (Go.Operand.tmp 108) (Go.Operand.const (Go.Value.bool false)), type := 4, pos := "law.go:41", after := #[{ on := 35, ground := Go.Ground.data }, { on := 45, ground := Go.Ground.data }], guard := none }) (v := ?_) rfl (by kernel_rfl) (by kernel_rfl) (by kernel_rfl) (fun _ _ _ h => h) (Or.inl ⟨by kernel_rfl, ?_⟩) (by assumption) ?_
                     rotate_left
                     · intro W hSw; go_simp; first | done | with_reducible rfl
                     try simp only [Act.put, List.setIfInBounds_toArray, List.set_cons_zero, List.set_cons_succ]
                     refine wpAnyH_take (i := 47) (oi := { dst := some 110, op := Go.Op.move (Go.Operand.tmp 109), type := 4, pos := "law.go:41", after := #[{ on := 46, ground := Go.Ground.data }, { on := 44, ground := Go.Ground.chain }], guard := none }) (v := ?_) rfl (by kernel_rfl) (by kernel_rfl) (by kernel_rfl) (fun _ _ _ h => h) (Or.inl ⟨by kernel_rfl, ?_⟩) (by assumption) ?_
                     rotate_left
                     · intro W hSw; go_simp; first | done | with_reducible rfl
                     try simp only [Act.put, List.setIfInBounds_toArray, List.set_cons_zero, List.set_cons_succ]
                     refine wpAnyH_take (i := 48) (oi := { dst := some 111, op := Go.Op.load 27 (Go.Operand.tmp 7), type := 27, pos := "law.go:41", after := #[{ on := 47, ground := Go.Ground.guard }], guard := some (47, true) }) (v := ?_) rfl (by kernel_rfl) (by kernel_rfl) (by kernel_rfl) (fun _ _ _ h => h) (Or.inl ⟨by kernel_rfl, ?_⟩) (by assumption) ?_
                     rotate_left
                     · intro W hSw; go_simp; first | done | with_reducible rfl
                     try simp only [Act.put, List.setIfInBounds_toArray, List.set_cons_zero, List.set_cons_succ]
                     refine wpAnyH_take (i := 49) (oi := { dst := some 112, op := Go.Op.move (Go.Operand.tmp 1), type := 3, pos := "law.go:41", after := #[{ on := 47, ground := Go.Ground.guard }], guard := some (47, true) }) (v := ?_) rfl (by kernel_rfl) (by kernel_rfl) (by kernel_rfl) (fun _ _ _ h => h) (Or.inl ⟨by kernel_rfl, ?_⟩) (by assumption) ?_
                     rotate_left
                     · intro W hSw; go_simp; first | done | with_reducible rfl
                     try simp only [Act.put, List.setIfInBounds_toArray, List.set_cons_zero, List.set_cons_succ]
                     refine wpAnyH_take (i := 51) (oi := { dst := some 114, op := Go.Op.move (Go.Operand.tmp 1), type := 3, pos := "law.go:41", after := #[{ on := 47, ground := Go.Ground.guard }], guard := some (47, true) }) (v := ?_) rfl (by kernel_rfl) (by kernel_rfl) (by kernel_rfl) (fun _ _ _ h => h) (Or.inl ⟨by kernel_rfl, ?_⟩) (by assumption) ?_
                     rotate_left
                     · intro W hSw; go_simp; first | done | with_reducible rfl
                     try simp only [Act.put, List.setIfInBounds_toArray, List.set_cons_zero, List.set_cons_succ]
                     refine wpAnyH_take (i := 53) (oi := { dst := some 116, op := Go.Op.move (Go.Operand.tmp 1), type := 3, pos := "law.go:41", after := #[{ on := 47, ground := Go.Ground.guard }], guard := some (47, true) }) (v := ?_) rfl (by kernel_rfl) (by kernel_rfl) (by kernel_rfl) (fun _ _ _ h => h) (Or.inl ⟨by kernel_rfl, ?_⟩) (by assumption) ?_
                     rotate_left
                     · intro W hSw; go_simp; first | done | with_reducible rfl
                     try simp only [Act.put, List.setIfInBounds_toArray, List.set_cons_zero, List.set_cons_succ]
                     refine wpAnyH_take (i := 55) (oi := { dst := some 118, op := Go.Op.move (Go.Operand.tmp 11), type := 4, pos := "law.go:41", after := #[{ on := 47, ground := Go.Ground.guard }], guard := some (47, true) }) (v := ?_) rfl (by kernel_rfl) (by kernel_rfl) (by kernel_rfl) (fun _ _ _ h => h) (Or.inl ⟨by kernel_rfl, ?_⟩) (by assumption) ?_
                     rotate_left
                     · intro W hSw; go_simp; first | done | with_reducible rfl
                     try simp only [Act.put, List.setIfInBounds_toArray, List.set_cons_zero, List.set_cons_succ]
                     refine wpAnyH_ready (rs := [50]) (by kernel_rfl) (by simp) ?_
                     refine AllReadyH.cons (o := { dst := some 113, op := Go.Op.call { callee := Go.Callee.value (Go.Operand.func 19), args := #[Go.Operand.tmp 111, Go.Operand.tmp 112], argTypes := #[27, 3] }, type := 27, pos := "law.go:41", after := #[{ on := 48, ground := Go.Ground.data }, { on := 49, ground := Go.Ground.data }, { on := 47, ground := Go.Ground.chain }, { on := 47, ground := Go.Ground.guard }], guard := some (47, true) }) rfl (fun K hK => ?_) AllReadyH.nil
                     refine goes_ (N := some 113) («as» := #[.tmp 111, .tmp 112]) Tryd.func19 (by kernel_rfl) rfl #[.agg (agC .u64 65 ff), .int .i64 a1] (by kernel_rfl) rfl rfl (by kernel_rfl) ?_
                     with_reducible refine (CO.out _).mono ?_
                     rintro e X ⟨rfl, hb⟩
                     refine ⟨_, rfl, ?_⟩
                     replace hX := Aside0.mk (below_step hX.out hb)
                     (try replace hC1 := Aside0.mk (Kd.C_below hC1.out hb))
                     (try replace hR1 := Aside0.mk (Kd.R_below hR1.out hb))
                     clear hb
                     refine hK.out _ _ ?_ (fun hHeld => ?_)
                     · exact hSl.out _ hX.out
                     clear hK K
                     try simp only [Act.put, List.setIfInBounds_toArray, List.set_cons_zero, List.set_cons_succ]
                     as_aux_lemma =>
                      refine wpAnyH_ready (rs := [52]) (by kernel_rfl) (by simp) ?_
                      refine AllReadyH.cons (o := { dst := some 115, op := Go.Op.call { callee := Go.Callee.value (Go.Operand.func 18), args := #[Go.Operand.tmp 113, Go.Operand.tmp 114], argTypes := #[27, 3] }, type := 27, pos := "law.go:41", after := #[{ on := 50, ground := Go.Ground.data }, { on := 51, ground := Go.Ground.data }, { on := 50, ground := Go.Ground.chain }, { on := 47, ground := Go.Ground.guard }], guard := some (47, true) }) rfl (fun K hK => ?_) AllReadyH.nil
                      refine goes_ (N := some 115) («as» := #[.tmp 113, .tmp 114]) Tryd.func18 (by kernel_rfl) rfl #[.agg (agC .u64 65 fWo), .int .i64 a1] (by kernel_rfl) rfl rfl (by kernel_rfl) ?_
                      with_reducible refine (CWW.out _).mono ?_
                      rintro e X ⟨rfl, hb⟩
                      refine ⟨_, rfl, ?_⟩
                      replace hX := Aside0.mk (below_step hX.out hb)
                      (try replace hC1 := Aside0.mk (Kd.C_below hC1.out hb))
                      (try replace hR1 := Aside0.mk (Kd.R_below hR1.out hb))
                      clear hb
                      refine hK.out _ _ ?_ (fun hHeld => ?_)
                      · exact hSl.out _ hX.out
                      clear hK K
                      try simp only [Act.put, List.setIfInBounds_toArray, List.set_cons_zero, List.set_cons_succ]
                      refine wpAnyH_ready (rs := [54]) (by kernel_rfl) (by simp) ?_
                      refine AllReadyH.cons (o := { dst := some 117, op := Go.Op.call { callee := Go.Callee.value (Go.Operand.func 17), args := #[Go.Operand.tmp 115, Go.Operand.tmp 116], argTypes := #[27, 3] }, type := 4, pos := "law.go:41", after := #[{ on := 52, ground := Go.Ground.data }, { on := 53, ground := Go.Ground.data }, { on := 52, ground := Go.Ground.chain }, { on := 47, ground := Go.Ground.guard }], guard := some (47, true) }) rfl (fun K hK => ?_) AllReadyH.nil
                      refine goes_ (N := some 117) («as» := #[.tmp 115, .tmp 116]) Tryd.func17 (by kernel_rfl) rfl #[.agg (agC .u64 65 fWW), .int .i64 a1] (by kernel_rfl) rfl rfl (by kernel_rfl) ?_
                      with_reducible refine (CHWW.out _).mono ?_
                      rintro e X ⟨rfl, hb⟩
                      refine ⟨_, rfl, ?_⟩
                      replace hX := Aside0.mk (below_step hX.out hb)
                      (try replace hC1 := Aside0.mk (Kd.C_below hC1.out hb))
                      (try replace hR1 := Aside0.mk (Kd.R_below hR1.out hb))
                      clear hb
                      refine hK.out _ _ ?_ (fun hHeld => ?_)
                      · exact hSl.out _ hX.out
                      clear hK K
                      try simp only [Act.put, List.setIfInBounds_toArray, List.set_cons_zero, List.set_cons_succ]
                      as_aux_lemma =>
                       refine wpAnyH_take (i := 56) (oi := { dst := some 119, op := Go.Op.binOp Go.BinOp.eql 4 (Go.Operand.tmp 117) (Go.Operand.tmp 118) 4, type := 4, pos := "law.go:41", after := #[{ on := 54, ground := Go.Ground.data }, { on := 55, ground := Go.Ground.data }, { on := 47, ground := Go.Ground.guard }], guard := some (47, true) }) (v := ?_) rfl (by kernel_rfl) (by kernel_rfl) (by kernel_rfl) (fun _ _ _ h => h) (Or.inl ⟨by kernel_rfl, ?_⟩) (by assumption) ?_
                       rotate_left
                       · intro W hSw; go_simp; first | done | with_reducible rfl
                       try simp only [Act.put, List.setIfInBounds_toArray, List.set_cons_zero, List.set_cons_succ]
                       refine wpAnyH_take (i := 57) (oi := { dst := some 120, op := Go.Op.pick (Go.Operand.tmp 110) (Go.Operand.tmp 119) (Go.Operand.const (Go.Value.bool false)), type := 4, pos := "law.go:41", after := #[{ on := 47, ground := Go.Ground.data }, { on := 56, ground := Go.Ground.data }], guard := none }) (v := ?_) rfl (by kernel_rfl) (by kernel_rfl) (by kernel_rfl) (fun _ _ _ h => h) (Or.inl ⟨by kernel_rfl, ?_⟩) (by assumption) ?_
                       rotate_left
                       · intro W hSw; go_simp; first | done | with_reducible rfl
                       try simp only [Act.put, List.setIfInBounds_toArray, List.set_cons_zero, List.set_cons_succ]
                       refine wpAnyH_take (i := 58) (oi := { dst := some 121, op := Go.Op.move (Go.Operand.tmp 120), type := 4, pos := "law.go:41", after := #[{ on := 57, ground := Go.Ground.data }, { on := 54, ground := Go.Ground.chain }], guard := none }) (v := ?_) rfl (by kernel_rfl) (by kernel_rfl) (by kernel_rfl) (fun _ _ _ h => h) (Or.inl ⟨by kernel_rfl, ?_⟩) (by assumption) ?_
                       rotate_left
                       · intro W hSw; go_simp; first | done | with_reducible rfl
                       try simp only [Act.put, List.setIfInBounds_toArray, List.set_cons_zero, List.set_cons_succ]
                       refine wpAnyH_take (i := 59) (oi := { dst := some 122, op := Go.Op.move (Go.Operand.tmp 12), type := 4, pos := "law.go:41", after := #[{ on := 58, ground := Go.Ground.guard }], guard := some (58, true) }) (v := ?_) rfl (by kernel_rfl) (by kernel_rfl) (by kernel_rfl) (fun _ _ _ h => h) (Or.inl ⟨by kernel_rfl, ?_⟩) (by assumption) ?_
                       rotate_left
                       · intro W hSw; go_simp; first | done | with_reducible rfl
                       try simp only [Act.put, List.setIfInBounds_toArray, List.set_cons_zero, List.set_cons_succ]
                       refine wpAnyH_take (i := 60) (oi := { dst := some 123, op := Go.Op.move (Go.Operand.tmp 122), type := 4, pos := "law.go:41", after := #[{ on := 59, ground := Go.Ground.data }, { on := 58, ground := Go.Ground.chain }, { on := 58, ground := Go.Ground.guard }], guard := some (58, true) }) (v := ?_) rfl (by kernel_rfl) (by kernel_rfl) (by kernel_rfl) (fun _ _ _ h => h) (Or.inl ⟨by kernel_rfl, ?_⟩) (by assumption) ?_
                       rotate_left
                       · intro W hSw; go_simp; first | done | with_reducible rfl
                       try simp only [Act.put, List.setIfInBounds_toArray, List.set_cons_zero, List.set_cons_succ]
                       refine wpAnyH_take (i := 61) (oi := { dst := some 124, op := Go.Op.load 27 (Go.Operand.tmp 7), type := 27, pos := "law.go:41", after := #[{ on := 60, ground := Go.Ground.guard }], guard := some (60, false) }) (v := ?_) rfl (by kernel_rfl) (by kernel_rfl) (by kernel_rfl) (fun _ _ _ h => h) (Or.inl ⟨by kernel_rfl, ?_⟩) (by assumption) ?_
                       rotate_left
                       · intro W hSw; go_simp; first | done | with_reducible rfl
                       try simp only [Act.put, List.setIfInBounds_toArray, List.set_cons_zero, List.set_cons_succ]
                       refine wpAnyH_take (i := 62) (oi := { dst := some 125, op := Go.Op.move (Go.Operand.tmp 1), type := 3, pos := "law.go:41", after := #[{ on := 60, ground := Go.Ground.guard }], guard := some (60, false) }) (v := ?_) rfl (by kernel_rfl) (by kernel_rfl) (by kernel_rfl) (fun _ _ _ h => h) (Or.inl ⟨by kernel_rfl, ?_⟩) (by assumption) ?_
                       rotate_left
                       · intro W hSw; go_simp; first | done | with_reducible rfl
                       try simp only [Act.put, List.setIfInBounds_toArray, List.set_cons_zero, List.set_cons_succ]
                       refine wpAnyH_take (i := 64) (oi := { dst := some 127, op := Go.Op.load 27 (Go.Operand.tmp 7), type := 27, pos := "law.go:41", after := #[{ on := 60, ground := Go.Ground.guard }], guard := some (60, false) }) (v := ?_) rfl (by kernel_rfl) (by kernel_rfl) (by kernel_rfl) (fun _ _ _ h => h) (Or.inl ⟨by kernel_rfl, ?_⟩) (by assumption) ?_
                       rotate_left
                       · intro W hSw; go_simp; first | done | with_reducible rfl
                       try simp only [Act.put, List.setIfInBounds_toArray, List.set_cons_zero, List.set_cons_succ]
                       refine wpAnyH_ready (rs := [63]) (by kernel_rfl) (by simp) ?_
                       refine AllReadyH.cons (o := { dst := some 126, op := Go.Op.call { callee := Go.Callee.value (Go.Operand.func 19), args := #[Go.Operand.tmp 124, Go.Operand.tmp 125], argTypes := #[27, 3] }, type := 27, pos := "law.go:41", after := #[{ on := 61, ground := Go.Ground.data }, { on := 62, ground := Go.Ground.data }, { on := 60, ground := Go.Ground.chain }, { on := 60, ground := Go.Ground.guard }], guard := some (60, false) }) rfl (fun K hK => ?_) AllReadyH.nil
                       refine goes_ (N := some 126) («as» := #[.tmp 124, .tmp 125]) Tryd.func19 (by kernel_rfl) rfl #[.agg (agC .u64 65 ff), .int .i64 a1] (by kernel_rfl) rfl rfl (by kernel_rfl) ?_
                       with_reducible refine (CO.out _).mono ?_
                       rintro e X ⟨rfl, hb⟩
                       refine ⟨_, rfl, ?_⟩
                       replace hX := Aside0.mk (below_step hX.out hb)
                       (try replace hC1 := Aside0.mk (Kd.C_below hC1.out hb))
                       (try replace hR1 := Aside0.mk (Kd.R_below hR1.out hb))
                       clear hb
                       refine hK.out _ _ ?_ (fun hHeld => ?_)
                       · exact hSl.out _ hX.out
                       clear hK K
                       try simp only [Act.put, List.setIfInBounds_toArray, List.set_cons_zero, List.set_cons_succ]
                       refine wpAnyH_take (i := 65) (oi := { dst := some 128, op := Go.Op.binOp Go.BinOp.eql 27 (Go.Operand.tmp 126) (Go.Operand.tmp 127) 27, type := 4, pos := "law.go:41", after := #[{ on := 63, ground := Go.Ground.data }, { on := 64, ground := Go.Ground.data }, { on := 60, ground := Go.Ground.guard }], guard := some (60, false) }) (v := ?_) rfl (by kernel_rfl) (by kernel_rfl) (by kernel_rfl) (fun _ _ _ h => h) (Or.inl ⟨by kernel_rfl, ?_⟩) (by assumption) ?_
                       rotate_left
                       · intro W hSw; go_simp; first | done | with_reducible rfl
                       try simp only [Act.put, List.setIfInBounds_toArray, List.set_cons_zero, List.set_cons_succ]
                       refine wpAnyH_take (i := 66) (oi := { dst := some 129, op := Go.Op.pick (Go.Operand.tmp 123) (Go.Operand.const (Go.Value.bool true)) (Go.Operand.tmp 128), type := 4, pos := "law.go:41", after := #[{ on := 60, ground := Go.Ground.data }, { on := 65, ground := Go.Ground.data }, { on := 58, ground := Go.Ground.guard }], guard := some (58, true) }) (v := ?_) rfl (by kernel_rfl) (by kernel_rfl) (by kernel_rfl) (fun _ _ _ h => h) (Or.inl ⟨by kernel_rfl, ?_⟩) (by assumption) ?_
                       rotate_left
                       · intro W hSw; go_simp; first | done | with_reducible rfl
                       try simp only [Act.put, List.setIfInBounds_toArray, List.set_cons_zero, List.set_cons_succ]
                       refine wpAnyH_take (i := 67) (oi := { dst := some 130, op := Go.Op.pick (Go.Operand.tmp 121) (Go.Operand.tmp 129) (Go.Operand.const (Go.Value.bool false)), type := 4, pos := "law.go:41", after := #[{ on := 58, ground := Go.Ground.data }, { on := 66, ground := Go.Ground.data }], guard := none }) (v := ?_) rfl (by kernel_rfl) (by kernel_rfl) (by kernel_rfl) (fun _ _ _ h => h) (Or.inl ⟨by kernel_rfl, ?_⟩) (by assumption) ?_
                       rotate_left
                       · intro W hSw; go_simp; first | done | with_reducible rfl
                       try simp only [Act.put, List.setIfInBounds_toArray, List.set_cons_zero, List.set_cons_succ]
                       refine wpAnyH_ready (rs := [68]) (by kernel_rfl) (by simp) ?_
                       refine AllReadyH.cons (o := { dst := none, op := Go.Op.store 4 (Go.Operand.tmp 6) (Go.Operand.tmp 130), type := 0, pos := "law.go:41", after := ([{ on := 67, ground := Go.Ground.data }, { on := 63, ground := Go.Ground.chain }, { on := 0, ground := Go.Ground.phase }, { on := 1, ground := Go.Ground.phase }, { on := 2, ground := Go.Ground.phase }, { on := 3, ground := Go.Ground.phase }, { on := 4, ground := Go.Ground.phase }, { on := 5, ground := Go.Ground.phase }, { on := 6, ground := Go.Ground.phase }, { on := 7, ground := Go.Ground.phase }, { on := 8, ground := Go.Ground.phase }, { on := 9, ground := Go.Ground.phase }, { on := 10, ground := Go.Ground.phase }, { on := 11, ground := Go.Ground.phase }, { on := 12, ground := Go.Ground.phase }, { on := 13, ground := Go.Ground.phase }, { on := 14, ground := Go.Ground.phase }, { on := 15, ground := Go.Ground.phase }, { on := 16, ground := Go.Ground.phase }, { on := 17, ground := Go.Ground.phase }, { on := 18, ground := Go.Ground.phase }, { on := 19, ground := Go.Ground.phase }, { on := 20, ground := Go.Ground.phase }, { on := 21, ground := Go.Ground.phase }, { on := 22, ground := Go.Ground.phase }, { on := 23, ground := Go.Ground.phase }, { on := 24, ground := Go.Ground.phase }, { on := 25, ground := Go.Ground.phase }, { on := 26, ground := Go.Ground.phase }, { on := 27, ground := Go.Ground.phase }, { on := 28, ground := Go.Ground.phase }, { on := 29, ground := Go.Ground.phase }, { on := 30, ground := Go.Ground.phase }, { on := 31, ground := Go.Ground.phase }, { on := 32, ground := Go.Ground.phase }].append [{ on := 33, ground := Go.Ground.phase }, { on := 34, ground := Go.Ground.phase }, { on := 35, ground := Go.Ground.phase }, { on := 36, ground := Go.Ground.phase }, { on := 37, ground := Go.Ground.phase }, { on := 38, ground := Go.Ground.phase }, { on := 39, ground := Go.Ground.phase }, { on := 40, ground := Go.Ground.phase }, { on := 41, ground := Go.Ground.phase }, { on := 42, ground := Go.Ground.phase }, { on := 43, ground := Go.Ground.phase }, { on := 44, ground := Go.Ground.phase }, { on := 45, ground := Go.Ground.phase }, { on := 46, ground := Go.Ground.phase }, { on := 47, ground := Go.Ground.phase }, { on := 48, ground := Go.Ground.phase }, { on := 49, ground := Go.Ground.phase }, { on := 50, ground := Go.Ground.phase }, { on := 51, ground := Go.Ground.phase }, { on := 52, ground := Go.Ground.phase }, { on := 53, ground := Go.Ground.phase }, { on := 54, ground := Go.Ground.phase }, { on := 55, ground := Go.Ground.phase }, { on := 56, ground := Go.Ground.phase }, { on := 57, ground := Go.Ground.phase }, { on := 58, ground := Go.Ground.phase }, { on := 59, ground := Go.Ground.phase }, { on := 60, ground := Go.Ground.phase }, { on := 61, ground := Go.Ground.phase }, { on := 62, ground := Go.Ground.phase }, { on := 63, ground := Go.Ground.phase }, { on := 64, ground := Go.Ground.phase }, { on := 65, ground := Go.Ground.phase }, { on := 66, ground := Go.Ground.phase }, { on := 67, ground := Go.Ground.phase }]).toArray, guard := none }) rfl (fun K hK => ?_) AllReadyH.nil
                       have hc6 := (hS6.out _ hX.out).1
                       have hz6 := (hS6.out _ hX.out).2
                       go_simp
                       refine hK.out _ _ ?_ (fun hHeld => ?_)
                       · exact hSr.out _ hX.out
                       clear hK K
                       try simp only [Act.put, List.setIfInBounds_toArray, List.set_cons_zero, List.set_cons_succ]
                       as_aux_lemma =>
                        refine wpAnyH_done (by kernel_rfl) ?_ _
                        try simp only [Act.put, List.setIfInBounds_toArray, List.set_cons_zero, List.set_cons_succ, List.getElem_toArray, List.getElem_cons_zero, List.getElem_cons_succ]
                        refine NoPanic.normal ?_
                        (try dsimp only [Exit.then])
                        refine hKz.out _ _ ?_
                        go_wp2_with (fail)
                        have hKX := (Below.heap_setCell _ ⟨w.heap.size + 1, 0, none⟩ (Value.bool true) D (by show D ≠ w.heap.size + 1; omega)).trans (blk_below hKe.out hX.out)
                        refine ⟨by simp, .inl ⟨_, _, rfl, run_takeDeferred hKX, ?_⟩⟩
                        refine ⟨_, results_one rfl _ _ ⟨w.heap.size + 1, 0, none⟩ (.bool true) Tryd.underlying4 rfl (cell_kept (World.cell?_setCell_same' _ _ _ (by rw [hc6]; rfl)) (grownBy_putObj' _ D (.deferred none)) (fun r e => by cases e; exact ⟨_, hKX, rfl⟩)), rfl, ?_⟩
                        exact (below_set (below_step HBe.out hX.out) (by omega)).trans (belowK_b (w := w) (Nat.le_refl _) _ D _ _ (by omega) hKX rfl rfl)
          · clear E2
            refine wp_region_noPanic ?_
            refine wp_region_held_drew (S := fun X' => TlS (w.heap.size + 1) we X') (by kernel_rfl) (hSl.out _ (below_drew hX.out)) (fun hHeld => ?_)
            replace hX := Aside0.mk (below_drew hX.out)
            refine wpAnyH_take (i := 0) (oi := { dst := some 63, op := Go.Op.load 27 (Go.Operand.tmp 7), type := 27, pos := "law.go:41", after := #[], guard := none }) (v := ?_) rfl (by kernel_rfl) (by kernel_rfl) (by kernel_rfl) (fun _ _ _ h => h) (Or.inl ⟨by kernel_rfl, ?_⟩) (by assumption) ?_
            rotate_left
            · intro W hSw; go_simp; first | done | with_reducible rfl
            try simp only [Act.put, List.setIfInBounds_toArray, List.set_cons_zero, List.set_cons_succ]
            refine wpAnyH_take (i := 2) (oi := { dst := some 65, op := Go.Op.load 22 (Go.Operand.tmp 8), type := 22, pos := "law.go:41", after := #[], guard := none }) (v := ?_) rfl (by kernel_rfl) (by kernel_rfl) (by kernel_rfl) (fun _ _ _ h => h) (Or.inl ⟨by kernel_rfl, ?_⟩) (by assumption) ?_
            rotate_left
            · intro W hSw; go_simp; first | done | with_reducible rfl
            try simp only [Act.put, List.setIfInBounds_toArray, List.set_cons_zero, List.set_cons_succ]
            refine wpAnyH_ready (rs := [1]) (by kernel_rfl) (by simp) ?_
            refine AllReadyH.cons (o := { dst := some 64, op := Go.Op.call { callee := Go.Callee.value (Go.Operand.func 15), args := #[Go.Operand.tmp 63], argTypes := #[27] }, type := 22, pos := "law.go:41", after := #[{ on := 0, ground := Go.Ground.data }], guard := none }) rfl (fun K hK => ?_) AllReadyH.nil
            refine goes_ (N := some 64) («as» := #[.tmp 63]) Tryd.func15 (by kernel_rfl) rfl #[.agg (agC .u64 65 ff)] (by kernel_rfl) rfl rfl (by kernel_rfl) ?_
            with_reducible refine (CL.out _ (hTe.out.step hX.out)).mono ?_
            rintro e X ⟨v, rfl, hR, hb⟩
            refine ⟨_, rfl, ?_⟩
            replace hX := Aside0.mk (below_step hX.out hb)
            obtain ⟨Al, cl, rfl, hcl, hCl⟩ := Kd.R_reads hR
            replace hCl := Aside0.mk hCl
            clear hb hR
            refine hK.out _ _ ?_ (fun hHeld => ?_)
            · exact hSl.out _ hX.out
            clear hK K
            try simp only [Act.put, List.setIfInBounds_toArray, List.set_cons_zero, List.set_cons_succ]
            refine wpAnyH_ready (rs := [3]) (by kernel_rfl) (by simp) ?_
            refine AllReadyH.cons (o := { dst := some 66, op := Go.Op.call { callee := Go.Callee.value (Go.Operand.func 14), args := #[Go.Operand.tmp 64, Go.Operand.tmp 65], argTypes := #[22, 22] }, type := 4, pos := "law.go:41", after := #[{ on := 1, ground := Go.Ground.data }, { on := 2, ground := Go.Ground.data }, { on := 1, ground := Go.Ground.chain }], guard := none }) rfl (fun K hK => ?_) AllReadyH.nil
            refine goes_ (N := some 66) («as» := #[.tmp 64, .tmp 65]) Tryd.func14 (by kernel_rfl) rfl #[.slice Al xs.length cl, .slice As xs.length cs] (by kernel_rfl) rfl rfl (by kernel_rfl) ?_
            refine (CI.out Al cl As cs _ hCl.out hcl (Kd.C_below hCs.out hX.out) hcs).mono ?_
            rintro e X ⟨rfl, hd⟩
            refine ⟨_, rfl, ?_⟩
            replace hX := Aside0.mk (below_step hX.out hd.below)
            clear hd hCl hcl
            refine hK.out _ _ ?_ (fun hHeld => ?_)
            · exact hSl.out _ hX.out
            clear hK K
            try simp only [Act.put, List.setIfInBounds_toArray, List.set_cons_zero, List.set_cons_succ]
            as_aux_lemma =>
             refine wpAnyH_take (i := 4) (oi := { dst := some 67, op := Go.Op.move (Go.Operand.tmp 66), type := 4, pos := "law.go:41", after := #[{ on := 3, ground := Go.Ground.data }, { on := 3, ground := Go.Ground.chain }], guard := none }) (v := ?_) rfl (by kernel_rfl) (by kernel_rfl) (by kernel_rfl) (fun _ _ _ h => h) (Or.inl ⟨by kernel_rfl, ?_⟩) (by assumption) ?_
             rotate_left
             · intro W hSw; go_simp; first | done | with_reducible rfl
             try simp only [Act.put, List.setIfInBounds_toArray, List.set_cons_zero, List.set_cons_succ]
             refine wpAnyH_take (i := 5) (oi := { dst := some 68, op := Go.Op.load 27 (Go.Operand.tmp 7), type := 27, pos := "law.go:41", after := #[{ on := 4, ground := Go.Ground.guard }], guard := some (4, true) }) (v := ?_) rfl (by kernel_rfl) (by kernel_rfl) (by kernel_rfl) (fun _ _ _ h => h) (Or.inl ⟨by kernel_rfl, ?_⟩) (by assumption) ?_
             rotate_left
             · intro W hSw; go_simp; first | done | with_reducible rfl
             try simp only [Act.put, List.setIfInBounds_toArray, List.set_cons_zero, List.set_cons_succ]
             refine wpAnyH_take (i := 7) (oi := { dst := some 70, op := Go.Op.load 22 (Go.Operand.tmp 8), type := 22, pos := "law.go:41", after := #[{ on := 4, ground := Go.Ground.guard }], guard := some (4, true) }) (v := ?_) rfl (by kernel_rfl) (by kernel_rfl) (by kernel_rfl) (fun _ _ _ h => h) (Or.inl ⟨by kernel_rfl, ?_⟩) (by assumption) ?_
             rotate_left
             · intro W hSw; go_simp; first | done | with_reducible rfl
             try simp only [Act.put, List.setIfInBounds_toArray, List.set_cons_zero, List.set_cons_succ]
             refine wpAnyH_take (i := 8) (oi := { dst := some 71, op := Go.Op.call { callee := Go.Callee.builtin Go.Builtin.len, args := #[Go.Operand.tmp 70], argTypes := #[22] }, type := 3, pos := "law.go:41", after := #[{ on := 7, ground := Go.Ground.data }, { on := 4, ground := Go.Ground.guard }], guard := some (4, true) }) (v := ?_) rfl (by kernel_rfl) (by kernel_rfl) (by kernel_rfl) (fun _ _ _ h => h) (Or.inl ⟨by kernel_rfl, ?_⟩) (by assumption) ?_
             rotate_left
             · intro W hSw; go_simp; first | done | with_reducible rfl
             try simp only [Act.put, List.setIfInBounds_toArray, List.set_cons_zero, List.set_cons_succ]
             refine wpAnyH_ready (rs := [6]) (by kernel_rfl) (by simp) ?_
             refine AllReadyH.cons (o := { dst := some 69, op := Go.Op.call { callee := Go.Callee.value (Go.Operand.func 16), args := #[Go.Operand.tmp 68], argTypes := #[27] }, type := 3, pos := "law.go:41", after := #[{ on := 5, ground := Go.Ground.data }, { on := 4, ground := Go.Ground.chain }, { on := 4, ground := Go.Ground.guard }], guard := some (4, true) }) rfl (fun K hK => ?_) AllReadyH.nil
             refine goes_ (N := some 69) («as» := #[.tmp 68]) Tryd.func16 (by kernel_rfl) rfl #[.agg (agC .u64 65 ff)] (by kernel_rfl) rfl rfl (by kernel_rfl) ?_
             with_reducible refine (CN.out _).mono ?_
             rintro e X ⟨rfl, hb⟩
             refine ⟨_, rfl, ?_⟩
             replace hX := Aside0.mk (below_step hX.out hb)
             (try replace hC1 := Aside0.mk (Kd.C_below hC1.out hb))
             (try replace hR1 := Aside0.mk (Kd.R_below hR1.out hb))
             clear hb
             refine hK.out _ _ ?_ (fun hHeld => ?_)
             · exact hSl.out _ hX.out
             clear hK K
             try simp only [Act.put, List.setIfInBounds_toArray, List.set_cons_zero, List.set_cons_succ]
             refine wpAnyH_take (i := 9) (oi := { dst := some 72, op := Go.Op.binOp Go.BinOp.eql 3 (Go.Operand.tmp 69) (Go.Operand.tmp 71) 3, type := 4, pos := "law.go:41", after := #[{ on := 6, ground := Go.Ground.data }, { on := 8, ground := Go.Ground.data }, { on := 4, ground := Go.Ground.guard }], guard := some (4, true) }) (v := ?_) rfl (by kernel_rfl) (by kernel_rfl) (by kernel_rfl) (fun _ _ _ h => h) (Or.inl ⟨by kernel_rfl, ?_⟩) (by assumption) ?_
             rotate_left
             · intro W hSw; go_simp; first | done | with_reducible rfl
             try simp only [Act.put, List.setIfInBounds_toArray, List.set_cons_zero, List.set_cons_succ]
             refine wpAnyH_take (i := 10) (oi := { dst := some 73, op := Go.Op.pick (Go.Operand.tmp 67) (Go.Operand.tmp 72) (Go.Operand.const (Go.Value.bool false)), type := 4, pos := "law.go:41", after := #[{ on := 4, ground := Go.Ground.data }, { on := 9, ground := Go.Ground.data }], guard := none }) (v := ?_) rfl (by kernel_rfl) (by kernel_rfl) (by kernel_rfl) (fun _ _ _ h => h) (Or.inl ⟨by kernel_rfl, ?_⟩) (by assumption) ?_
             rotate_left
             · intro W hSw; go_simp; first | done | with_reducible rfl
             try simp only [Act.put, List.setIfInBounds_toArray, List.set_cons_zero, List.set_cons_succ]
             refine wpAnyH_take (i := 11) (oi := { dst := some 74, op := Go.Op.move (Go.Operand.tmp 73), type := 4, pos := "law.go:41", after := #[{ on := 10, ground := Go.Ground.data }, { on := 6, ground := Go.Ground.chain }], guard := none }) (v := ?_) rfl (by kernel_rfl) (by kernel_rfl) (by kernel_rfl) (fun _ _ _ h => h) (Or.inl ⟨by kernel_rfl, ?_⟩) (by assumption) ?_
             rotate_left
             · intro W hSw; go_simp; first | done | with_reducible rfl
             try simp only [Act.put, List.setIfInBounds_toArray, List.set_cons_zero, List.set_cons_succ]
             refine wpAnyH_take (i := 12) (oi := { dst := some 75, op := Go.Op.load 27 (Go.Operand.tmp 7), type := 27, pos := "law.go:41", after := #[{ on := 11, ground := Go.Ground.guard }], guard := some (11, true) }) (v := ?_) rfl (by kernel_rfl) (by kernel_rfl) (by kernel_rfl) (fun _ _ _ h => h) (Or.inl ⟨by kernel_rfl, ?_⟩) (by assumption) ?_
             rotate_left
             · intro W hSw; go_simp; first | done | with_reducible rfl
             try simp only [Act.put, List.setIfInBounds_toArray, List.set_cons_zero, List.set_cons_succ]
             refine wpAnyH_take (i := 13) (oi := { dst := some 76, op := Go.Op.move (Go.Operand.tmp 1), type := 3, pos := "law.go:41", after := #[{ on := 11, ground := Go.Ground.guard }], guard := some (11, true) }) (v := ?_) rfl (by kernel_rfl) (by kernel_rfl) (by kernel_rfl) (fun _ _ _ h => h) (Or.inl ⟨by kernel_rfl, ?_⟩) (by assumption) ?_
             rotate_left
             · intro W hSw; go_simp; first | done | with_reducible rfl
             try simp only [Act.put, List.setIfInBounds_toArray, List.set_cons_zero, List.set_cons_succ]
             refine wpAnyH_take (i := 15) (oi := { dst := some 78, op := Go.Op.move (Go.Operand.tmp 12), type := 4, pos := "law.go:41", after := #[{ on := 11, ground := Go.Ground.guard }], guard := some (11, true) }) (v := ?_) rfl (by kernel_rfl) (by kernel_rfl) (by kernel_rfl) (fun _ _ _ h => h) (Or.inl ⟨by kernel_rfl, ?_⟩) (by assumption) ?_
             rotate_left
             · intro W hSw; go_simp; first | done | with_reducible rfl
             try simp only [Act.put, List.setIfInBounds_toArray, List.set_cons_zero, List.set_cons_succ]
             refine wpAnyH_ready (rs := [14]) (by kernel_rfl) (by simp) ?_
             refine AllReadyH.cons (o := { dst := some 77, op := Go.Op.call { callee := Go.Callee.value (Go.Operand.func 17), args := #[Go.Operand.tmp 75, Go.Operand.tmp 76], argTypes := #[27, 3] }, type := 4, pos := "law.go:41", after := #[{ on := 12, ground := Go.Ground.data }, { on := 13, ground := Go.Ground.data }, { on := 11, ground := Go.Ground.chain }, { on := 11, ground := Go.Ground.guard }], guard := some (11, true) }) rfl (fun K hK => ?_) AllReadyH.nil
             refine goes_ (N := some 77) («as» := #[.tmp 75, .tmp 76]) Tryd.func17 (by kernel_rfl) rfl #[.agg (agC .u64 65 ff), .int .i64 a1] (by kernel_rfl) rfl rfl (by kernel_rfl) ?_
             with_reducible refine (CH.out _).mono ?_
             rintro e X ⟨rfl, hb⟩
             refine ⟨_, rfl, ?_⟩
             replace hX := Aside0.mk (below_step hX.out hb)
             (try replace hC1 := Aside0.mk (Kd.C_below hC1.out hb))
             (try replace hR1 := Aside0.mk (Kd.R_below hR1.out hb))
             clear hb
             refine hK.out _ _ ?_ (fun hHeld => ?_)
             · exact hSl.out _ hX.out
             clear hK K
             try simp only [Act.put, List.setIfInBounds_toArray, List.set_cons_zero, List.set_cons_succ]
             as_aux_lemma =>
              refine wpAnyH_take (i := 16) (oi := { dst := some 79, op := Go.Op.binOp Go.BinOp.eql 4 (Go.Operand.tmp 77) (Go.Operand.tmp 78) 4, type := 4, pos := "law.go:41", after := #[{ on := 14, ground := Go.Ground.data }, { on := 15, ground := Go.Ground.data }, { on := 11, ground := Go.Ground.guard }], guard := some (11, true) }) (v := ?_) rfl (by kernel_rfl) (by kernel_rfl) (by kernel_rfl) (fun _ _ _ h => h) (Or.inl ⟨by kernel_rfl, ?_⟩) (by assumption) ?_
              rotate_left
              · intro W hSw; go_simp; first | done | with_reducible rfl
              try simp only [Act.put, List.setIfInBounds_toArray, List.set_cons_zero, List.set_cons_succ]
              refine wpAnyH_take (i := 17) (oi := { dst := some 80, op := Go.Op.pick (Go.Operand.tmp 74) (Go.Operand.tmp 79) (Go.Operand.const (Go.Value.bool false)), type := 4, pos := "law.go:41", after := #[{ on := 11, ground := Go.Ground.data }, { on := 16, ground := Go.Ground.data }], guard := none }) (v := ?_) rfl (by kernel_rfl) (by kernel_rfl) (by kernel_rfl) (fun _ _ _ h => h) (Or.inl ⟨by kernel_rfl, ?_⟩) (by assumption) ?_
              rotate_left
              · intro W hSw; go_simp; first | done | with_reducible rfl
              try simp only [Act.put, List.setIfInBounds_toArray, List.set_cons_zero, List.set_cons_succ]
              refine wpAnyH_take (i := 18) (oi := { dst := some 81, op := Go.Op.move (Go.Operand.tmp 80), type := 4, pos := "law.go:41", after := #[{ on := 17, ground := Go.Ground.data }, { on := 14, ground := Go.Ground.chain }], guard := none }) (v := ?_) rfl (by kernel_rfl) (by kernel_rfl) (by kernel_rfl) (fun _ _ _ h => h) (Or.inl ⟨by kernel_rfl, ?_⟩) (by assumption) ?_
              rotate_left
              · intro W hSw; go_simp; first | done | with_reducible rfl
              try simp only [Act.put, List.setIfInBounds_toArray, List.set_cons_zero, List.set_cons_succ]
              refine wpAnyH_take (i := 19) (oi := { dst := some 82, op := Go.Op.load 27 (Go.Operand.tmp 7), type := 27, pos := "law.go:41", after := #[{ on := 18, ground := Go.Ground.guard }], guard := some (18, true) }) (v := ?_) rfl (by kernel_rfl) (by kernel_rfl) (by kernel_rfl) (fun _ _ _ h => h) (Or.inl ⟨by kernel_rfl, ?_⟩) (by assumption) ?_
              rotate_left
              · intro W hSw; go_simp; first | done | with_reducible rfl
              try simp only [Act.put, List.setIfInBounds_toArray, List.set_cons_zero, List.set_cons_succ]
              refine wpAnyH_take (i := 20) (oi := { dst := some 83, op := Go.Op.move (Go.Operand.tmp 1), type := 3, pos := "law.go:41", after := #[{ on := 18, ground := Go.Ground.guard }], guard := some (18, true) }) (v := ?_) rfl (by kernel_rfl) (by kernel_rfl) (by kernel_rfl) (fun _ _ _ h => h) (Or.inl ⟨by kernel_rfl, ?_⟩) (by assumption) ?_
              rotate_left
              · intro W hSw; go_simp; first | done | with_reducible rfl
              try simp only [Act.put, List.setIfInBounds_toArray, List.set_cons_zero, List.set_cons_succ]
              refine wpAnyH_take (i := 22) (oi := { dst := some 85, op := Go.Op.move (Go.Operand.tmp 1), type := 3, pos := "law.go:41", after := #[{ on := 18, ground := Go.Ground.guard }], guard := some (18, true) }) (v := ?_) rfl (by kernel_rfl) (by kernel_rfl) (by kernel_rfl) (fun _ _ _ h => h) (Or.inl ⟨by kernel_rfl, ?_⟩) (by assumption) ?_
              rotate_left
              · intro W hSw; go_simp; first | done | with_reducible rfl
              try simp only [Act.put, List.setIfInBounds_toArray, List.set_cons_zero, List.set_cons_succ]
              refine wpAnyH_take (i := 24) (oi := { dst := some 87, op := Go.Op.move (Go.Operand.tmp 11), type := 4, pos := "law.go:41", after := #[{ on := 18, ground := Go.Ground.guard }], guard := some (18, true) }) (v := ?_) rfl (by kernel_rfl) (by kernel_rfl) (by kernel_rfl) (fun _ _ _ h => h) (Or.inl ⟨by kernel_rfl, ?_⟩) (by assumption) ?_
              rotate_left
              · intro W hSw; go_simp; first | done | with_reducible rfl
              try simp only [Act.put, List.setIfInBounds_toArray, List.set_cons_zero, List.set_cons_succ]
              refine wpAnyH_ready (rs := [21]) (by kernel_rfl) (by simp) ?_
              refine AllReadyH.cons (o := { dst := some 84, op := Go.Op.call { callee := Go.Callee.value (Go.Operand.func 18), args := #[Go.Operand.tmp 82, Go.Operand.tmp 83], argTypes := #[27, 3] }, type := 27, pos := "law.go:41", after := #[{ on := 19, ground := Go.Ground.data }, { on := 20, ground := Go.Ground.data }, { on := 18, ground := Go.Ground.chain }, { on := 18, ground := Go.Ground.guard }], guard := some (18, true) }) rfl (fun K hK => ?_) AllReadyH.nil
              refine goes_ (N := some 84) («as» := #[.tmp 82, .tmp 83]) Tryd.func18 (by kernel_rfl) rfl #[.agg (agC .u64 65 ff), .int .i64 a1] (by kernel_rfl) rfl rfl (by kernel_rfl) ?_
              with_reducible refine (CW.out _).mono ?_
              rintro e X ⟨rfl, hb⟩
              refine ⟨_, rfl, ?_⟩
              replace hX := Aside0.mk (below_step hX.out hb)
              (try replace hC1 := Aside0.mk (Kd.C_below hC1.out hb))
              (try replace hR1 := Aside0.mk (Kd.R_below hR1.out hb))
              clear hb
              refine hK.out _ _ ?_ (fun hHeld => ?_)
              · exact hSl.out _ hX.out
              clear hK K
              try simp only [Act.put, List.setIfInBounds_toArray, List.set_cons_zero, List.set_cons_succ]
              refine wpAnyH_ready (rs := [23]) (by kernel_rfl) (by simp) ?_
              refine AllReadyH.cons (o := { dst := some 86, op := Go.Op.call { callee := Go.Callee.value (Go.Operand.func 17), args := #[Go.Operand.tmp 84, Go.Operand.tmp 85], argTypes := #[27, 3] }, type := 4, pos := "law.go:41", after := #[{ on := 21, ground := Go.Ground.data }, { on := 22, ground := Go.Ground.data }, { on := 21, ground := Go.Ground.chain }, { on := 18, ground := Go.Ground.guard }], guard := some (18, true) }) rfl (fun K hK => ?_) AllReadyH.nil
              refine goes_ (N := some 86) («as» := #[.tmp 84, .tmp 85]) Tryd.func17 (by kernel_rfl) rfl #[.agg (agC .u64 65 fW), .int .i64 a1] (by kernel_rfl) rfl rfl (by kernel_rfl) ?_
              with_reducible refine (CHW.out _).mono ?_
              rintro e X ⟨rfl, hb⟩
              refine ⟨_, rfl, ?_⟩
              replace hX := Aside0.mk (below_step hX.out hb)
              (try replace hC1 := Aside0.mk (Kd.C_below hC1.out hb))
              (try replace hR1 := Aside0.mk (Kd.R_below hR1.out hb))
              clear hb
              refine hK.out _ _ ?_ (fun hHeld => ?_)
              · exact hSl.out _ hX.out
              clear hK K
              try simp only [Act.put, List.setIfInBounds_toArray, List.set_cons_zero, List.set_cons_succ]
              as_aux_lemma =>
               refine wpAnyH_take (i := 25) (oi := { dst := some 88, op := Go.Op.binOp Go.BinOp.eql 4 (Go.Operand.tmp 86) (Go.Operand.tmp 87) 4, type := 4, pos := "law.go:41", after := #[{ on := 23, ground := Go.Ground.data }, { on := 24, ground := Go.Ground.data }, { on := 18, ground := Go.Ground.guard }], guard := some (18, true) }) (v := ?_) rfl (by kernel_rfl) (by kernel_rfl) (by kernel_rfl) (fun _ _ _ h => h) (Or.inl ⟨by kernel_rfl, ?_⟩) (by assumption) ?_
               rotate_left
               · intro W hSw; go_simp; first | done | with_reducible rfl
               try simp only [Act.put, List.setIfInBounds_toArray, List.set_cons_zero, List.set_cons_succ]
               refine wpAnyH_take (i := 26) (oi := { dst := some 89, op := Go.Op.pick (Go.Operand.tmp 81) (Go.Operand.tmp 88) (Go.Operand.const (Go.Value.bool false)), type := 4, pos := "law.go:41", after := #[{ on := 18, ground := Go.Ground.data }, { on := 25, ground := Go.Ground.data }], guard := none }) (v := ?_) rfl (by kernel_rfl) (by kernel_rfl) (by kernel_rfl) (fun _ _ _ h => h) (Or.inl ⟨by kernel_rfl, ?_⟩) (by assumption) ?_
               rotate_left
               · intro W hSw; go_simp; first | done | with_reducible rfl
               try simp only [Act.put, List.setIfInBounds_toArray, List.set_cons_zero, List.set_cons_succ]
               refine wpAnyH_take (i := 27) (oi := { dst := some 90, op := Go.Op.move (Go.Operand.tmp 89), type := 4, pos := "law.go:41", after := #[{ on := 26, ground := Go.Ground.data }, { on := 23, ground := Go.Ground.chain }], guard := none }) (v := ?_) rfl (by kernel_rfl) (by kernel_rfl) (by kernel_rfl) (fun _ _ _ h => h) (Or.inl ⟨by kernel_rfl, ?_⟩) (by assumption) ?_
               rotate_left
               · intro W hSw; go_simp; first | done | with_reducible rfl
               try simp only [Act.put, List.setIfInBounds_toArray, List.set_cons_zero, List.set_cons_succ]
               refine wpAnyH_take (i := 28) (oi := { dst := some 91, op := Go.Op.load 27 (Go.Operand.tmp 7), type := 27, pos := "law.go:41", after := #[{ on := 27, ground := Go.Ground.guard }], guard := some (27, true) }) (v := ?_) rfl (by kernel_rfl) (by kernel_rfl) (by kernel_rfl) (fun _ _ _ h => h) (Or.inl ⟨by kernel_rfl, ?_⟩) (by assumption) ?_
               rotate_left
               · intro W hSw; go_simp; first | done | with_reducible rfl
               try simp only [Act.put, List.setIfInBounds_toArray, List.set_cons_zero, List.set_cons_succ]
               refine wpAnyH_take (i := 29) (oi := { dst := some 92, op := Go.Op.move (Go.Operand.tmp 1), type := 3, pos := "law.go:41", after := #[{ on := 27, ground := Go.Ground.guard }], guard := some (27, true) }) (v := ?_) rfl (by kernel_rfl) (by kernel_rfl) (by kernel_rfl) (fun _ _ _ h => h) (Or.inl ⟨by kernel_rfl, ?_⟩) (by assumption) ?_
               rotate_left
               · intro W hSw; go_simp; first | done | with_reducible rfl
               try simp only [Act.put, List.setIfInBounds_toArray, List.set_cons_zero, List.set_cons_succ]
               refine wpAnyH_take (i := 31) (oi := { dst := some 94, op := Go.Op.move (Go.Operand.tmp 1), type := 3, pos := "law.go:41", after := #[{ on := 27, ground := Go.Ground.guard }], guard := some (27, true) }) (v := ?_) rfl (by kernel_rfl) (by kernel_rfl) (by kernel_rfl) (fun _ _ _ h => h) (Or.inl ⟨by kernel_rfl, ?_⟩) (by assumption) ?_
               rotate_left
               · intro W hSw; go_simp; first | done | with_reducible rfl
               try simp only [Act.put, List.setIfInBounds_toArray, List.set_cons_zero, List.set_cons_succ]
               refine wpAnyH_ready (rs := [30]) (by kernel_rfl) (by simp) ?_
               refine AllReadyH.cons (o := { dst := some 93, op := Go.Op.call { callee := Go.Callee.value (Go.Operand.func 19), args := #[Go.Operand.tmp 91, Go.Operand.tmp 92], argTypes := #[27, 3] }, type := 27, pos := "law.go:41", after := #[{ on := 28, ground := Go.Ground.data }, { on := 29, ground := Go.Ground.data }, { on := 27, ground := Go.Ground.chain }, { on := 27, ground := Go.Ground.guard }], guard := some (27, true) }) rfl (fun K hK => ?_) AllReadyH.nil
               refine goes_ (N := some 93) («as» := #[.tmp 91, .tmp 92]) Tryd.func19 (by kernel_rfl) rfl #[.agg (agC .u64 65 ff), .int .i64 a1] (by kernel_rfl) rfl rfl (by kernel_rfl) ?_
               with_reducible refine (CO.out _).mono ?_
               rintro e X ⟨rfl, hb⟩
               refine ⟨_, rfl, ?_⟩
               replace hX := Aside0.mk (below_step hX.out hb)
               (try replace hC1 := Aside0.mk (Kd.C_below hC1.out hb))
               (try replace hR1 := Aside0.mk (Kd.R_below hR1.out hb))
               clear hb
               refine hK.out _ _ ?_ (fun hHeld => ?_)
               · exact hSl.out _ hX.out
               clear hK K
               try simp only [Act.put, List.setIfInBounds_toArray, List.set_cons_zero, List.set_cons_succ]
               refine wpAnyH_ready (rs := [32]) (by kernel_rfl) (by simp) ?_
               refine AllReadyH.cons (o := { dst := some 95, op := Go.Op.call { callee := Go.Callee.value (Go.Operand.func 17), args := #[Go.Operand.tmp 93, Go.Operand.tmp 94], argTypes := #[27, 3] }, type := 4, pos := "law.go:41", after := #[{ on := 30, ground := Go.Ground.data }, { on := 31, ground := Go.Ground.data }, { on := 30, ground := Go.Ground.chain }, { on := 27, ground := Go.Ground.guard }], guard := some (27, true) }) rfl (fun K hK => ?_) AllReadyH.nil
               refine goes_ (N := some 95) («as» := #[.tmp 93, .tmp 94]) Tryd.func17 (by kernel_rfl) rfl #[.agg (agC .u64 65 fWo), .int .i64 a1] (by kernel_rfl) rfl rfl (by kernel_rfl) ?_
               with_reducible refine (CHO.out _).mono ?_
               rintro e X ⟨rfl, hb⟩
               refine ⟨_, rfl, ?_⟩
               replace hX := Aside0.mk (below_step hX.out hb)
               (try replace hC1 := Aside0.mk (Kd.C_below hC1.out hb))
               (try replace hR1 := Aside0.mk (Kd.R_below hR1.out hb))
               clear hb
               refine hK.out _ _ ?_ (fun hHeld => ?_)
               · exact hSl.out _ hX.out
               clear hK K
               try simp only [Act.put, List.setIfInBounds_toArray, List.set_cons_zero, List.set_cons_succ]
               as_aux_lemma =>
                refine wpAnyH_take (i := 33) (oi := { dst := some 96, op := Go.Op.unOp Go.UnOp.not 4 (Go.Operand.tmp 95), type := 4, pos := "law.go:41", after := #[{ on := 32, ground := Go.Ground.data }, { on := 27, ground := Go.Ground.guard }], guard := some (27, true) }) (v := ?_) rfl (by kernel_rfl) (by kernel_rfl) (by kernel_rfl) (fun _ _ _ h => h) (Or.inl ⟨by kernel_rfl, ?_⟩) (by assumption) ?_
                rotate_left
                · intro W hSw; go_simp; first | done | with_reducible rfl
                try simp only [Act.put, List.setIfInBounds_toArray, List.set_cons_zero, List.set_cons_succ]
                refine wpAnyH_take (i := 34) (oi := { dst := some 97, op := Go.Op.pick (Go.Operand.tmp 90) (Go.Operand.tmp 96) (Go.Operand.const (Go.Value.bool false)), type := 4, pos := "law.go:41", after := #[{ on := 27, ground := Go.Ground.data }, { on := 33, ground := Go.Ground.data }], guard := none }) (v := ?_) rfl (by kernel_rfl) (by kernel_rfl) (by kernel_rfl) (fun _ _ _ h => h) (Or.inl ⟨by kernel_rfl, ?_⟩) (by assumption) ?_
                rotate_left
                · intro W hSw; go_simp; first | done | with_reducible rfl
                try simp only [Act.put, List.setIfInBounds_toArray, List.set_cons_zero, List.set_cons_succ]
                refine wpAnyH_take (i := 35) (oi := { dst := some 98, op := Go.Op.move (Go.Operand.tmp 97), type := 4, pos := "law.go:41", after := #[{ on := 34, ground := Go.Ground.data }, { on := 32, ground := Go.Ground.chain }], guard := none }) (v := ?_) rfl (by kernel_rfl) (by kernel_rfl) (by kernel_rfl) (fun _ _ _ h => h) (Or.inl ⟨by kernel_rfl, ?_⟩) (by assumption) ?_
                rotate_left
                · intro W hSw; go_simp; first | done | with_reducible rfl
                try simp only [Act.put, List.setIfInBounds_toArray, List.set_cons_zero, List.set_cons_succ]
                refine wpAnyH_take (i := 36) (oi := { dst := some 99, op := Go.Op.load 27 (Go.Operand.tmp 7), type := 27, pos := "law.go:41", after := #[{ on := 35, ground := Go.Ground.guard }], guard := some (35, true) }) (v := ?_) rfl (by kernel_rfl) (by kernel_rfl) (by kernel_rfl) (fun _ _ _ h => h) (Or.inl ⟨by kernel_rfl, ?_⟩) (by assumption) ?_
                rotate_left
                · intro W hSw; go_simp; first | done | with_reducible rfl
                try simp only [Act.put, List.setIfInBounds_toArray, List.set_cons_zero, List.set_cons_succ]
                refine wpAnyH_take (i := 37) (oi := { dst := some 100, op := Go.Op.move (Go.Operand.tmp 1), type := 3, pos := "law.go:41", after := #[{ on := 35, ground := Go.Ground.guard }], guard := some (35, true) }) (v := ?_) rfl (by kernel_rfl) (by kernel_rfl) (by kernel_rfl) (fun _ _ _ h => h) (Or.inl ⟨by kernel_rfl, ?_⟩) (by assumption) ?_
                rotate_left
                · intro W hSw; go_simp; first | done | with_reducible rfl
                try simp only [Act.put, List.setIfInBounds_toArray, List.set_cons_zero, List.set_cons_succ]
                refine wpAnyH_take (i := 39) (oi := { dst := some 102, op := Go.Op.move (Go.Operand.tmp 0), type := 22, pos := "law.go:41", after := #[{ on := 35, ground := Go.Ground.guard }], guard := some (35, true) }) (v := ?_) rfl (by kernel_rfl) (by kernel_rfl) (by kernel_rfl) (fun _ _ _ h => h) (Or.inl ⟨by kernel_rfl, ?_⟩) (by assumption) ?_
                rotate_left
                · intro W hSw; go_simp; first | done | with_reducible rfl
                try simp only [Act.put, List.setIfInBounds_toArray, List.set_cons_zero, List.set_cons_succ]
                refine wpAnyH_take (i := 41) (oi := { dst := some 104, op := Go.Op.move (Go.Operand.tmp 1), type := 3, pos := "law.go:41", after := #[{ on := 35, ground := Go.Ground.guard }], guard := some (35, true) }) (v := ?_) rfl (by kernel_rfl) (by kernel_rfl) (by kernel_rfl) (fun _ _ _ h => h) (Or.inl ⟨by kernel_rfl, ?_⟩) (by assumption) ?_
                rotate_left
                · intro W hSw; go_simp; first | done | with_reducible rfl
                try simp only [Act.put, List.setIfInBounds_toArray, List.set_cons_zero, List.set_cons_succ]
                refine wpAnyH_ready (rs := [38, 42]) (by kernel_rfl) (by simp) ?_
                refine AllReadyH.cons (o := { dst := some 101, op := Go.Op.call { callee := Go.Callee.value (Go.Operand.func 18), args := #[Go.Operand.tmp 99, Go.Operand.tmp 100], argTypes := #[27, 3] }, type := 27, pos := "law.go:41", after := #[{ on := 36, ground := Go.Ground.data }, { on := 37, ground := Go.Ground.data }, { on := 35, ground := Go.Ground.chain }, { on := 35, ground := Go.Ground.guard }], guard := some (35, true) }) rfl (fun K hK => ?_) (AllReadyH.cons (o := { dst := some 105, op := Go.Op.buildSlice 22 1 #[(0, Go.Operand.tmp 104)], type := 22, pos := "law.go:41", after := #[{ on := 41, ground := Go.Ground.data }, { on := 35, ground := Go.Ground.guard }], guard := some (35, true) }) rfl (fun K hK => ?_) AllReadyH.nil)
                · refine goes_ (N := some 101) («as» := #[.tmp 99, .tmp 100]) Tryd.func18 (by kernel_rfl) rfl #[.agg (agC .u64 65 ff), .int .i64 a1] (by kernel_rfl) rfl rfl (by kernel_rfl) ?_
                  with_reducible refine (CW.out _).mono ?_
                  rintro e X ⟨rfl, hb⟩
                  refine ⟨_, rfl, ?_⟩
                  replace hX := Aside0.mk (below_step hX.out hb)
                  (try replace hC1 := Aside0.mk (Kd.C_below hC1.out hb))
                  (try replace hR1 := Aside0.mk (Kd.R_below hR1.out hb))
                  clear hb
                  refine hK.out _ _ ?_ (fun hHeld => ?_)
                  · exact hSl.out _ hX.out
                  clear hK K
                  try simp only [Act.put, List.setIfInBounds_toArray, List.set_cons_zero, List.set_cons_succ]
                  as_aux_lemma =>
                   refine wpAnyH_ready (rs := [40, 42]) (by kernel_rfl) (by simp) ?_
                   refine AllReadyH.cons (o := { dst := some 103, op := Go.Op.call { callee := Go.Callee.builtin Go.Builtin.append, args := #[Go.Operand.const (Go.Value.slice none 0 0), Go.Operand.tmp 102], argTypes := #[22, 22] }, type := 22, pos := "law.go:41", after := #[{ on := 39, ground := Go.Ground.data }, { on := 38, ground := Go.Ground.chain }, { on := 35, ground := Go.Ground.guard }], guard := some (35, true) }) rfl (fun K hK => ?_) (AllReadyH.cons (o := { dst := some 105, op := Go.Op.buildSlice 22 1 #[(0, Go.Operand.tmp 104)], type := 22, pos := "law.go:41", after := #[{ on := 41, ground := Go.Ground.data }, { on := 35, ground := Go.Ground.guard }], guard := some (35, true) }) rfl (fun K hK => ?_) AllReadyH.nil)
                   · refine Kd.R_append_rows_step (Kd.int .i64) we.heap.size (by kernel_rfl) (.const (.slice none 0 0)) (.tmp 102) 22 3 (.int .i64 0) 8 rfl Tryd.underlying22 (by kernel_rfl) rfl (by decide) (by decide) (.slice none 0 0) [] l0 A0 l0.length c0 (fun _ => True) (fun _ => False) rfl rfl (Kd.R_nil _ _ _ _ _) (Kd.C_below HRe.out hX.out) (fun x cs h => h) (fun _ h => h.elim) (fun _ _ => trivial) hX.out (below_size hX.out) (by simp; omega) ?_
                     intro v1 X1 hR1 hb1 hg1 _
                     rw [List.nil_append] at hR1
                     replace hX := Aside0.mk hb1
                     replace hR1 := Aside0.mk hR1
                     (try replace hC1 := Aside0.mk (Kd.C_below hC1.out ((Below.refl _ _).grown hg1 (Nat.le_refl _) (fun k e => by cases e))))
                     clear hb1 hg1
                     refine hK.out _ _ ?_ (fun hHeld => ?_)
                     · exact hSl.out _ hX.out
                     clear hK K
                     try simp only [Act.put, List.setIfInBounds_toArray, List.set_cons_zero, List.set_cons_succ]
                     as_aux_lemma =>
                      refine wpAnyH_ready (rs := [42]) (by kernel_rfl) (by simp) ?_
                      refine AllReadyH.cons (o := { dst := some 105, op := Go.Op.buildSlice 22 1 #[(0, Go.Operand.tmp 104)], type := 22, pos := "law.go:41", after := #[{ on := 41, ground := Go.Ground.data }, { on := 35, ground := Go.Ground.guard }], guard := some (35, true) }) rfl (fun K hK => ?_) AllReadyH.nil
                      have hC1 := Aside0.mk (one_new hX.out a1 3)
                      (try replace hR1 := Aside0.mk (Kd.R_below hR1.out (below_alloc (Below.refl _ _) (.cells #[.int .i64 a1] 3 (0, 0)))))
                      replace hX := Aside0.mk (below_alloc hX.out (.cells #[.int .i64 a1] 3 (0, 0)))
                      go_simp
                      refine hK.out _ _ ?_ (fun hHeld => ?_)
                      · exact hSl.out _ hX.out
                      clear hK K
                      try simp only [Act.put, List.setIfInBounds_toArray, List.set_cons_zero, List.set_cons_succ]
                      refine wpAnyH_ready (rs := [43]) (by kernel_rfl) (by simp) ?_
                      refine AllReadyH.cons (o := { dst := some 106, op := Go.Op.call { callee := Go.Callee.builtin Go.Builtin.append, args := #[Go.Operand.tmp 103, Go.Operand.tmp 105], argTypes := #[22, 22] }, type := 22, pos := "law.go:41", after := #[{ on := 40, ground := Go.Ground.data }, { on := 42, ground := Go.Ground.data }, { on := 40, ground := Go.Ground.chain }, { on := 35, ground := Go.Ground.guard }], guard := some (35, true) }) rfl (fun K hK => ?_) AllReadyH.nil
                      refine Kd.R_append_rows_step (Kd.int .i64) we.heap.size (by kernel_rfl) (.tmp 103) (.tmp 105) 22 3 (.int .i64 0) 8 rfl Tryd.underlying22 (by kernel_rfl) rfl (by decide) (by decide) v1 l0 [a1] _ 1 1 (fun _ => True) (fun _ => False) rfl rfl hR1.out hC1.out (fun x cs h => h) (fun _ h => h.elim) (fun _ _ => trivial) hX.out (below_size hX.out) (by omega) ?_
                      intro v2 X2 hR2 hb2 _ _
                      replace hX := Aside0.mk hb2
                      obtain ⟨A2, c2, rfl, hc2, hC2⟩ := Kd.R_reads hR2
                      replace hC2 := Aside0.mk hC2
                      clear hb2 hR2 hR1 hC1
                      refine hK.out _ _ ?_ (fun hHeld => ?_)
                      · exact hSl.out _ hX.out
                      clear hK K
                      try simp only [Act.put, List.setIfInBounds_toArray, List.set_cons_zero, List.set_cons_succ]
                      as_aux_lemma =>
                       refine wpAnyH_ready (rs := [44]) (by kernel_rfl) (by simp) ?_
                       refine AllReadyH.cons (o := { dst := some 107, op := Go.Op.call { callee := Go.Callee.value (Go.Operand.func 10), args := #[Go.Operand.tmp 106], argTypes := #[22] }, type := 27, pos := "law.go:41", after := #[{ on := 43, ground := Go.Ground.data }, { on := 43, ground := Go.Ground.chain }, { on := 35, ground := Go.Ground.guard }], guard := some (35, true) }) rfl (fun K hK => ?_) AllReadyH.nil
                       refine goes_ (N := some 107) («as» := #[.tmp 106]) Tryd.func10 (by kernel_rfl) rfl #[.slice A2 (l0 ++ [a1]).length c2] (by kernel_rfl) rfl rfl (by kernel_rfl) ?_
                       with_reducible refine (COf.out A2 c2 _ hC2.out hc2).mono ?_
                       rintro e X ⟨rfl, hb⟩
                       refine ⟨_, rfl, ?_⟩
                       replace hX := Aside0.mk (below_step hX.out hb)
                       clear hb hC2 hc2
                       refine hK.out _ _ ?_ (fun hHeld => ?_)
                       · exact hSl.out _ hX.out
                       clear hK K
                       try simp only [Act.put, List.setIfInBounds_toArray, List.set_cons_zero, List.set_cons_succ]
                       refine wpAnyH_take (i := 45) (oi := { dst := some 108, op := Go.Op.binOp Go.BinOp.eql 27 (Go.Operand.tmp 101) (Go.Operand.tmp 107) 27, type := 4, pos := "law.go:41", after := #[{ on := 38, ground := Go.Ground.data }, { on := 44, ground := Go.Ground.data }, { on := 35, ground := Go.Ground.guard }], guard := some (35, true) }) (v := ?_) rfl (by kernel_rfl) (by kernel_rfl) (by kernel_rfl) (fun _ _ _ h => h) (Or.inl ⟨by kernel_rfl, ?_⟩) (by assumption) ?_
                       rotate_left
                       · intro W hSw; go_simp; first | done | with_reducible rfl
                       try simp only [Act.put, List.setIfInBounds_toArray, List.set_cons_zero, List.set_cons_succ]
                       refine wpAnyH_take (i := 46) (oi := { dst := some 109, op := Go.Op.pick (Go.Operand.tmp 98) (Go.Operand.tmp 108) (Go.Operand.const (Go.Value.bool false)), type := 4, pos := "law.go:41", after := #[{ on := 35, ground := Go.Ground.data }, { on := 45, ground := Go.Ground.data }], guard := none }) (v := ?_) rfl (by kernel_rfl) (by kernel_rfl) (by kernel_rfl) (fun _ _ _ h => h) (Or.inl ⟨by kernel_rfl, ?_⟩) (by assumption) ?_
                       rotate_left
                       · intro W hSw; go_simp; first | done | with_reducible rfl
                       try simp only [Act.put, List.setIfInBounds_toArray, List.set_cons_zero, List.set_cons_succ]
                       refine wpAnyH_take (i := 47) (oi := { dst := some 110, op := Go.Op.move (Go.Operand.tmp 109), type := 4, pos := "law.go:41", after := #[{ on := 46, ground := Go.Ground.data }, { on := 44, ground := Go.Ground.chain }], guard := none }) (v := ?_) rfl (by kernel_rfl) (by kernel_rfl) (by kernel_rfl) (fun _ _ _ h => h) (Or.inl ⟨by kernel_rfl, ?_⟩) (by assumption) ?_
                       rotate_left
                       · intro W hSw; go_simp; first | done | with_reducible rfl
                       try simp only [Act.put, List.setIfInBounds_toArray, List.set_cons_zero, List.set_cons_succ]
                       refine wpAnyH_take (i := 48) (oi := { dst := some 111, op := Go.Op.load 27 (Go.Operand.tmp 7), type := 27, pos := "law.go:41", after := #[{ on := 47, ground := Go.Ground.guard }], guard := some (47, true) }) (v := ?_) rfl (by kernel_rfl) (by kernel_rfl) (by kernel_rfl) (fun _ _ _ h => h) (Or.inl ⟨by kernel_rfl, ?_⟩) (by assumption) ?_
                       rotate_left
                       · intro W hSw; go_simp; first | done | with_reducible rfl
                       try simp only [Act.put, List.setIfInBounds_toArray, List.set_cons_zero, List.set_cons_succ]
                       refine wpAnyH_take (i := 49) (oi := { dst := some 112, op := Go.Op.move (Go.Operand.tmp 1), type := 3, pos := "law.go:41", after := #[{ on := 47, ground := Go.Ground.guard }], guard := some (47, true) }) (v := ?_) rfl (by kernel_rfl) (by kernel_rfl) (by kernel_rfl) (fun _ _ _ h => h) (Or.inl ⟨by kernel_rfl, ?_⟩) (by assumption) ?_
                       rotate_left
                       · intro W hSw; go_simp; first | done | with_reducible rfl
                       try simp only [Act.put, List.setIfInBounds_toArray, List.set_cons_zero, List.set_cons_succ]
                       refine wpAnyH_take (i := 51) (oi := { dst := some 114, op := Go.Op.move (Go.Operand.tmp 1), type := 3, pos := "law.go:41", after := #[{ on := 47, ground := Go.Ground.guard }], guard := some (47, true) }) (v := ?_) rfl (by kernel_rfl) (by kernel_rfl) (by kernel_rfl) (fun _ _ _ h => h) (Or.inl ⟨by kernel_rfl, ?_⟩) (by assumption) ?_
                       rotate_left
                       · intro W hSw; go_simp; first | done | with_reducible rfl
                       try simp only [Act.put, List.setIfInBounds_toArray, List.set_cons_zero, List.set_cons_succ]
                       refine wpAnyH_take (i := 53) (oi := { dst := some 116, op := Go.Op.move (Go.Operand.tmp 1), type := 3, pos := "law.go:41", after := #[{ on := 47, ground := Go.Ground.guard }], guard := some (47, true) }) (v := ?_) rfl (by kernel_rfl) (by kernel_rfl) (by kernel_rfl) (fun _ _ _ h => h) (Or.inl ⟨by kernel_rfl, ?_⟩) (by assumption) ?_
                       rotate_left
                       · intro W hSw; go_simp; first | done | with_reducible rfl
                       try simp only [Act.put, List.setIfInBounds_toArray, List.set_cons_zero, List.set_cons_succ]
                       refine wpAnyH_take (i := 55) (oi := { dst := some 118, op := Go.Op.move (Go.Operand.tmp 11), type := 4, pos := "law.go:41", after := #[{ on := 47, ground := Go.Ground.guard }], guard := some (47, true) }) (v := ?_) rfl (by kernel_rfl) (by kernel_rfl) (by kernel_rfl) (fun _ _ _ h => h) (Or.inl ⟨by kernel_rfl, ?_⟩) (by assumption) ?_
                       rotate_left
                       · intro W hSw; go_simp; first | done | with_reducible rfl
                       try simp only [Act.put, List.setIfInBounds_toArray, List.set_cons_zero, List.set_cons_succ]
                       refine wpAnyH_ready (rs := [50]) (by kernel_rfl) (by simp) ?_
                       refine AllReadyH.cons (o := { dst := some 113, op := Go.Op.call { callee := Go.Callee.value (Go.Operand.func 19), args := #[Go.Operand.tmp 111, Go.Operand.tmp 112], argTypes := #[27, 3] }, type := 27, pos := "law.go:41", after := #[{ on := 48, ground := Go.Ground.data }, { on := 49, ground := Go.Ground.data }, { on := 47, ground := Go.Ground.chain }, { on := 47, ground := Go.Ground.guard }], guard := some (47, true) }) rfl (fun K hK => ?_) AllReadyH.nil
                       refine goes_ (N := some 113) («as» := #[.tmp 111, .tmp 112]) Tryd.func19 (by kernel_rfl) rfl #[.agg (agC .u64 65 ff), .int .i64 a1] (by kernel_rfl) rfl rfl (by kernel_rfl) ?_
                       with_reducible refine (CO.out _).mono ?_
                       rintro e X ⟨rfl, hb⟩
                       refine ⟨_, rfl, ?_⟩
                       replace hX := Aside0.mk (below_step hX.out hb)
                       (try replace hC1 := Aside0.mk (Kd.C_below hC1.out hb))
                       (try replace hR1 := Aside0.mk (Kd.R_below hR1.out hb))
                       clear hb
                       refine hK.out _ _ ?_ (fun hHeld => ?_)
                       · exact hSl.out _ hX.out
                       clear hK K
                       try simp only [Act.put, List.setIfInBounds_toArray, List.set_cons_zero, List.set_cons_succ]
                       as_aux_lemma =>
                        refine wpAnyH_ready (rs := [52]) (by kernel_rfl) (by simp) ?_
                        refine AllReadyH.cons (o := { dst := some 115, op := Go.Op.call { callee := Go.Callee.value (Go.Operand.func 18), args := #[Go.Operand.tmp 113, Go.Operand.tmp 114], argTypes := #[27, 3] }, type := 27, pos := "law.go:41", after := #[{ on := 50, ground := Go.Ground.data }, { on := 51, ground := Go.Ground.data }, { on := 50, ground := Go.Ground.chain }, { on := 47, ground := Go.Ground.guard }], guard := some (47, true) }) rfl (fun K hK => ?_) AllReadyH.nil
                        refine goes_ (N := some 115) («as» := #[.tmp 113, .tmp 114]) Tryd.func18 (by kernel_rfl) rfl #[.agg (agC .u64 65 fWo), .int .i64 a1] (by kernel_rfl) rfl rfl (by kernel_rfl) ?_
                        with_reducible refine (CWW.out _).mono ?_
                        rintro e X ⟨rfl, hb⟩
                        refine ⟨_, rfl, ?_⟩
                        replace hX := Aside0.mk (below_step hX.out hb)
                        (try replace hC1 := Aside0.mk (Kd.C_below hC1.out hb))
                        (try replace hR1 := Aside0.mk (Kd.R_below hR1.out hb))
                        clear hb
                        refine hK.out _ _ ?_ (fun hHeld => ?_)
                        · exact hSl.out _ hX.out
                        clear hK K
                        try simp only [Act.put, List.setIfInBounds_toArray, List.set_cons_zero, List.set_cons_succ]
                        refine wpAnyH_ready (rs := [54]) (by kernel_rfl) (by simp) ?_
                        refine AllReadyH.cons (o := { dst := some 117, op := Go.Op.call { callee := Go.Callee.value (Go.Operand.func 17), args := #[Go.Operand.tmp 115, Go.Operand.tmp 116], argTypes := #[27, 3] }, type := 4, pos := "law.go:41", after := #[{ on := 52, ground := Go.Ground.data }, { on := 53, ground := Go.Ground.data }, { on := 52, ground := Go.Ground.chain }, { on := 47, ground := Go.Ground.guard }], guard := some (47, true) }) rfl (fun K hK => ?_) AllReadyH.nil
                        refine goes_ (N := some 117) («as» := #[.tmp 115, .tmp 116]) Tryd.func17 (by kernel_rfl) rfl #[.agg (agC .u64 65 fWW), .int .i64 a1] (by kernel_rfl) rfl rfl (by kernel_rfl) ?_
                        with_reducible refine (CHWW.out _).mono ?_
                        rintro e X ⟨rfl, hb⟩
                        refine ⟨_, rfl, ?_⟩
                        replace hX := Aside0.mk (below_step hX.out hb)
                        (try replace hC1 := Aside0.mk (Kd.C_below hC1.out hb))
                        (try replace hR1 := Aside0.mk (Kd.R_below hR1.out hb))
                        clear hb
                        refine hK.out _ _ ?_ (fun hHeld => ?_)
                        · exact hSl.out _ hX.out
                        clear hK K
                        try simp only [Act.put, List.setIfInBounds_toArray, List.set_cons_zero, List.set_cons_succ]
                        as_aux_lemma =>
                         refine wpAnyH_take (i := 56) (oi := { dst := some 119, op := Go.Op.binOp Go.BinOp.eql 4 (Go.Operand.tmp 117) (Go.Operand.tmp 118) 4, type := 4, pos := "law.go:41", after := #[{ on := 54, ground := Go.Ground.data }, { on := 55, ground := Go.Ground.data }, { on := 47, ground := Go.Ground.guard }], guard := some (47, true) }) (v := ?_) rfl (by kernel_rfl) (by kernel_rfl) (by kernel_rfl) (fun _ _ _ h => h) (Or.inl ⟨by kernel_rfl, ?_⟩) (by assumption) ?_
                         rotate_left
                         · intro W hSw; go_simp; first | done | with_reducible rfl
                         try simp only [Act.put, List.setIfInBounds_toArray, List.set_cons_zero, List.set_cons_succ]
                         refine wpAnyH_take (i := 57) (oi := { dst := some 120, op := Go.Op.pick (Go.Operand.tmp 110) (Go.Operand.tmp 119) (Go.Operand.const (Go.Value.bool false)), type := 4, pos := "law.go:41", after := #[{ on := 47, ground := Go.Ground.data }, { on := 56, ground := Go.Ground.data }], guard := none }) (v := ?_) rfl (by kernel_rfl) (by kernel_rfl) (by kernel_rfl) (fun _ _ _ h => h) (Or.inl ⟨by kernel_rfl, ?_⟩) (by assumption) ?_
                         rotate_left
                         · intro W hSw; go_simp; first | done | with_reducible rfl
                         try simp only [Act.put, List.setIfInBounds_toArray, List.set_cons_zero, List.set_cons_succ]
                         refine wpAnyH_take (i := 58) (oi := { dst := some 121, op := Go.Op.move (Go.Operand.tmp 120), type := 4, pos := "law.go:41", after := #[{ on := 57, ground := Go.Ground.data }, { on := 54, ground := Go.Ground.chain }], guard := none }) (v := ?_) rfl (by kernel_rfl) (by kernel_rfl) (by kernel_rfl) (fun _ _ _ h => h) (Or.inl ⟨by kernel_rfl, ?_⟩) (by assumption) ?_
                         rotate_left
                         · intro W hSw; go_simp; first | done | with_reducible rfl
                         try simp only [Act.put, List.setIfInBounds_toArray, List.set_cons_zero, List.set_cons_succ]
                         refine wpAnyH_take (i := 59) (oi := { dst := some 122, op := Go.Op.move (Go.Operand.tmp 12), type := 4, pos := "law.go:41", after := #[{ on := 58, ground := Go.Ground.guard }], guard := some (58, true) }) (v := ?_) rfl (by kernel_rfl) (by kernel_rfl) (by kernel_rfl) (fun _ _ _ h => h) (Or.inl ⟨by kernel_rfl, ?_⟩) (by assumption) ?_
                         rotate_left
                         · intro W hSw; go_simp; first | done | with_reducible rfl
                         try simp only [Act.put, List.setIfInBounds_toArray, List.set_cons_zero, List.set_cons_succ]
                         refine wpAnyH_take (i := 60) (oi := { dst := some 123, op := Go.Op.move (Go.Operand.tmp 122), type := 4, pos := "law.go:41", after := #[{ on := 59, ground := Go.Ground.data }, { on := 58, ground := Go.Ground.chain }, { on := 58, ground := Go.Ground.guard }], guard := some (58, true) }) (v := ?_) rfl (by kernel_rfl) (by kernel_rfl) (by kernel_rfl) (fun _ _ _ h => h) (Or.inl ⟨by kernel_rfl, ?_⟩) (by assumption) ?_
                         rotate_left
                         · intro W hSw; go_simp; first | done | with_reducible rfl
                         try simp only [Act.put, List.setIfInBounds_toArray, List.set_cons_zero, List.set_cons_succ]
                         refine wpAnyH_take (i := 61) (oi := { dst := some 124, op := Go.Op.load 27 (Go.Operand.tmp 7), type := 27, pos := "law.go:41", after := #[{ on := 60, ground := Go.Ground.guard }], guard := some (60, false) }) (v := undef) rfl (by kernel_rfl) (by kernel_rfl) (by kernel_rfl) (fun _ _ _ h => h) (Or.inr ⟨by kernel_rfl, rfl⟩) (by assumption) ?_
                         try simp only [Act.put, List.setIfInBounds_toArray, List.set_cons_zero, List.set_cons_succ]
                         refine wpAnyH_take (i := 62) (oi := { dst := some 125, op := Go.Op.move (Go.Operand.tmp 1), type := 3, pos := "law.go:41", after := #[{ on := 60, ground := Go.Ground.guard }], guard := some (60, false) }) (v := undef) rfl (by kernel_rfl) (by kernel_rfl) (by kernel_rfl) (fun _ _ _ h => h) (Or.inr ⟨by kernel_rfl, rfl⟩) (by assumption) ?_
                         try simp only [Act.put, List.setIfInBounds_toArray, List.set_cons_zero, List.set_cons_succ]
                         refine wpAnyH_take (i := 63) (oi := { dst := some 126, op := Go.Op.call { callee := Go.Callee.value (Go.Operand.func 19), args := #[Go.Operand.tmp 124, Go.Operand.tmp 125], argTypes := #[27, 3] }, type := 27, pos := "law.go:41", after := #[{ on := 61, ground := Go.Ground.data }, { on := 62, ground := Go.Ground.data }, { on := 60, ground := Go.Ground.chain }, { on := 60, ground := Go.Ground.guard }], guard := some (60, false) }) (v := undef) rfl (by kernel_rfl) (by kernel_rfl) (by kernel_rfl) (fun _ _ _ h => h) (Or.inr ⟨by kernel_rfl, rfl⟩) (by assumption) ?_
                         try simp only [Act.put, List.setIfInBounds_toArray, List.set_cons_zero, List.set_cons_succ]
                         refine wpAnyH_take (i := 64) (oi := { dst := some 127, op := Go.Op.load 27 (Go.Operand.tmp 7), type := 27, pos := "law.go:41", after := #[{ on := 60, ground := Go.Ground.guard }], guard := some (60, false) }) (v := undef) rfl (by kernel_rfl) (by kernel_rfl) (by kernel_rfl) (fun _ _ _ h => h) (Or.inr ⟨by kernel_rfl, rfl⟩) (by assumption) ?_
                         try simp only [Act.put, List.setIfInBounds_toArray, List.set_cons_zero, List.set_cons_succ]
                         refine wpAnyH_take (i := 65) (oi := { dst := some 128, op := Go.Op.binOp Go.BinOp.eql 27 (Go.Operand.tmp 126) (Go.Operand.tmp 127) 27, type := 4, pos := "law.go:41", after := #[{ on := 63, ground := Go.Ground.data }, { on := 64, ground := Go.Ground.data }, { on := 60, ground := Go.Ground.guard }], guard := some (60, false) }) (v := undef) rfl (by kernel_rfl) (by kernel_rfl) (by kernel_rfl) (fun _ _ _ h => h) (Or.inr ⟨by kernel_rfl, rfl⟩) (by assumption) ?_
                         try simp only [Act.put, List.setIfInBounds_toArray, List.set_cons_zero, List.set_cons_succ]
                         refine wpAnyH_take (i := 66) (oi := { dst := some 129, op := Go.Op.pick (Go.Operand.tmp 123) (Go.Operand.const (Go.Value.bool true)) (Go.Operand.tmp 128), type := 4, pos := "law.go:41", after := #[{ on := 60, ground := Go.Ground.data }, { on := 65, ground := Go.Ground.data }, { on := 58, ground := Go.Ground.guard }], guard := some (58, true) }) (v := ?_) rfl (by kernel_rfl) (by kernel_rfl) (by kernel_rfl) (fun _ _ _ h => h) (Or.inl ⟨by kernel_rfl, ?_⟩) (by assumption) ?_
                         rotate_left
                         · intro W hSw; go_simp; first | done | with_reducible rfl
                         try simp only [Act.put, List.setIfInBounds_toArray, List.set_cons_zero, List.set_cons_succ]
                         refine wpAnyH_take (i := 67) (oi := { dst := some 130, op := Go.Op.pick (Go.Operand.tmp 121) (Go.Operand.tmp 129) (Go.Operand.const (Go.Value.bool false)), type := 4, pos := "law.go:41", after := #[{ on := 58, ground := Go.Ground.data }, { on := 66, ground := Go.Ground.data }], guard := none }) (v := ?_) rfl (by kernel_rfl) (by kernel_rfl) (by kernel_rfl) (fun _ _ _ h => h) (Or.inl ⟨by kernel_rfl, ?_⟩) (by assumption) ?_
                         rotate_left
                         · intro W hSw; go_simp; first | done | with_reducible rfl
                         try simp only [Act.put, List.setIfInBounds_toArray, List.set_cons_zero, List.set_cons_succ]
                         refine wpAnyH_ready (rs := [68]) (by kernel_rfl) (by simp) ?_
                         refine AllReadyH.cons (o := { dst := none, op := Go.Op.store 4 (Go.Operand.tmp 6) (Go.Operand.tmp 130), type := 0, pos := "law.go:41", after := ([{ on := 67, ground := Go.Ground.data }, { on := 63, ground := Go.Ground.chain }, { on := 0, ground := Go.Ground.phase }, { on := 1, ground := Go.Ground.phase }, { on := 2, ground := Go.Ground.phase }, { on := 3, ground := Go.Ground.phase }, { on := 4, ground := Go.Ground.phase }, { on := 5, ground := Go.Ground.phase }, { on := 6, ground := Go.Ground.phase }, { on := 7, ground := Go.Ground.phase }, { on := 8, ground := Go.Ground.phase }, { on := 9, ground := Go.Ground.phase }, { on := 10, ground := Go.Ground.phase }, { on := 11, ground := Go.Ground.phase }, { on := 12, ground := Go.Ground.phase }, { on := 13, ground := Go.Ground.phase }, { on := 14, ground := Go.Ground.phase }, { on := 15, ground := Go.Ground.phase }, { on := 16, ground := Go.Ground.phase }, { on := 17, ground := Go.Ground.phase }, { on := 18, ground := Go.Ground.phase }, { on := 19, ground := Go.Ground.phase }, { on := 20, ground := Go.Ground.phase }, { on := 21, ground := Go.Ground.phase }, { on := 22, ground := Go.Ground.phase }, { on := 23, ground := Go.Ground.phase }, { on := 24, ground := Go.Ground.phase }, { on := 25, ground := Go.Ground.phase }, { on := 26, ground := Go.Ground.phase }, { on := 27, ground := Go.Ground.phase }, { on := 28, ground := Go.Ground.phase }, { on := 29, ground := Go.Ground.phase }, { on := 30, ground := Go.Ground.phase }, { on := 31, ground := Go.Ground.phase }, { on := 32, ground := Go.Ground.phase }].append [{ on := 33, ground := Go.Ground.phase }, { on := 34, ground := Go.Ground.phase }, { on := 35, ground := Go.Ground.phase }, { on := 36, ground := Go.Ground.phase }, { on := 37, ground := Go.Ground.phase }, { on := 38, ground := Go.Ground.phase }, { on := 39, ground := Go.Ground.phase }, { on := 40, ground := Go.Ground.phase }, { on := 41, ground := Go.Ground.phase }, { on := 42, ground := Go.Ground.phase }, { on := 43, ground := Go.Ground.phase }, { on := 44, ground := Go.Ground.phase }, { on := 45, ground := Go.Ground.phase }, { on := 46, ground := Go.Ground.phase }, { on := 47, ground := Go.Ground.phase }, { on := 48, ground := Go.Ground.phase }, { on := 49, ground := Go.Ground.phase }, { on := 50, ground := Go.Ground.phase }, { on := 51, ground := Go.Ground.phase }, { on := 52, ground := Go.Ground.phase }, { on := 53, ground := Go.Ground.phase }, { on := 54, ground := Go.Ground.phase }, { on := 55, ground := Go.Ground.phase }, { on := 56, ground := Go.Ground.phase }, { on := 57, ground := Go.Ground.phase }, { on := 58, ground := Go.Ground.phase }, { on := 59, ground := Go.Ground.phase }, { on := 60, ground := Go.Ground.phase }, { on := 61, ground := Go.Ground.phase }, { on := 62, ground := Go.Ground.phase }, { on := 63, ground := Go.Ground.phase }, { on := 64, ground := Go.Ground.phase }, { on := 65, ground := Go.Ground.phase }, { on := 66, ground := Go.Ground.phase }, { on := 67, ground := Go.Ground.phase }]).toArray, guard := none }) rfl (fun K hK => ?_) AllReadyH.nil
                         have hc6 := (hS6.out _ hX.out).1
                         have hz6 := (hS6.out _ hX.out).2
                         go_simp
                         refine hK.out _ _ ?_ (fun hHeld => ?_)
                         · exact hSr.out _ hX.out
                         clear hK K
                         try simp only [Act.put, List.setIfInBounds_toArray, List.set_cons_zero, List.set_cons_succ]
                         refine wpAnyH_done (by kernel_rfl) ?_ _
                         try simp only [Act.put, List.setIfInBounds_toArray, List.set_cons_zero, List.set_cons_succ, List.getElem_toArray, List.getElem_cons_zero, List.getElem_cons_succ]
                         refine NoPanic.normal ?_
                         (try dsimp only [Exit.then])
                         refine hKz.out _ _ ?_
                         go_wp2_with (fail)
                         have hKX := (Below.heap_setCell _ ⟨w.heap.size + 1, 0, none⟩ (Value.bool true) D (by show D ≠ w.heap.size + 1; omega)).trans (blk_below hKe.out hX.out)
                         refine ⟨by simp, .inl ⟨_, _, rfl, run_takeDeferred hKX, ?_⟩⟩
                         refine ⟨_, results_one rfl _ _ ⟨w.heap.size + 1, 0, none⟩ (.bool true) Tryd.underlying4 rfl (cell_kept (World.cell?_setCell_same' _ _ _ (by rw [hc6]; rfl)) (grownBy_putObj' _ D (.deferred none)) (fun r e => by cases e; exact ⟨_, hKX, rfl⟩)), rfl, ?_⟩
                         exact (below_set (below_step HBe.out hX.out) (by omega)).trans (belowK_b (w := w) (Nat.le_refl _) _ D _ _ (by omega) hKX rfl rfl)
                   · have hC1 := Aside0.mk (one_new hX.out a1 3)
                     (try replace hR1 := Aside0.mk (Kd.R_below hR1.out (below_alloc (Below.refl _ _) (.cells #[.int .i64 a1] 3 (0, 0)))))
                     replace hX := Aside0.mk (below_alloc hX.out (.cells #[.int .i64 a1] 3 (0, 0)))
                     go_simp
                     refine hK.out _ _ ?_ (fun hHeld => ?_)
                     · exact hSl.out _ hX.out
                     clear hK K
                     try simp only [Act.put, List.setIfInBounds_toArray, List.set_cons_zero, List.set_cons_succ]
                     as_aux_lemma =>
                      refine wpAnyH_ready (rs := [40]) (by kernel_rfl) (by simp) ?_
                      refine AllReadyH.cons (o := { dst := some 103, op := Go.Op.call { callee := Go.Callee.builtin Go.Builtin.append, args := #[Go.Operand.const (Go.Value.slice none 0 0), Go.Operand.tmp 102], argTypes := #[22, 22] }, type := 22, pos := "law.go:41", after := #[{ on := 39, ground := Go.Ground.data }, { on := 38, ground := Go.Ground.chain }, { on := 35, ground := Go.Ground.guard }], guard := some (35, true) }) rfl (fun K hK => ?_) AllReadyH.nil
                      refine Kd.R_append_rows_step (Kd.int .i64) we.heap.size (by kernel_rfl) (.const (.slice none 0 0)) (.tmp 102) 22 3 (.int .i64 0) 8 rfl Tryd.underlying22 (by kernel_rfl) rfl (by decide) (by decide) (.slice none 0 0) [] l0 A0 l0.length c0 (fun _ => True) (fun _ => False) rfl rfl (Kd.R_nil _ _ _ _ _) (Kd.C_below HRe.out hX.out) (fun x cs h => h) (fun _ h => h.elim) (fun _ _ => trivial) hX.out (below_size hX.out) (by simp; omega) ?_
                      intro v1 X1 hR1 hb1 hg1 _
                      rw [List.nil_append] at hR1
                      replace hX := Aside0.mk hb1
                      replace hR1 := Aside0.mk hR1
                      (try replace hC1 := Aside0.mk (Kd.C_below hC1.out ((Below.refl _ _).grown hg1 (Nat.le_refl _) (fun k e => by cases e))))
                      clear hb1 hg1
                      refine hK.out _ _ ?_ (fun hHeld => ?_)
                      · exact hSl.out _ hX.out
                      clear hK K
                      try simp only [Act.put, List.setIfInBounds_toArray, List.set_cons_zero, List.set_cons_succ]
                      refine wpAnyH_ready (rs := [43]) (by kernel_rfl) (by simp) ?_
                      refine AllReadyH.cons (o := { dst := some 106, op := Go.Op.call { callee := Go.Callee.builtin Go.Builtin.append, args := #[Go.Operand.tmp 103, Go.Operand.tmp 105], argTypes := #[22, 22] }, type := 22, pos := "law.go:41", after := #[{ on := 40, ground := Go.Ground.data }, { on := 42, ground := Go.Ground.data }, { on := 40, ground := Go.Ground.chain }, { on := 35, ground := Go.Ground.guard }], guard := some (35, true) }) rfl (fun K hK => ?_) AllReadyH.nil
                      refine Kd.R_append_rows_step (Kd.int .i64) we.heap.size (by kernel_rfl) (.tmp 103) (.tmp 105) 22 3 (.int .i64 0) 8 rfl Tryd.underlying22 (by kernel_rfl) rfl (by decide) (by decide) v1 l0 [a1] _ 1 1 (fun _ => True) (fun _ => False) rfl rfl hR1.out hC1.out (fun x cs h => h) (fun _ h => h.elim) (fun _ _ => trivial) hX.out (below_size hX.out) (by omega) ?_
                      intro v2 X2 hR2 hb2 _ _
                      replace hX := Aside0.mk hb2
                      obtain ⟨A2, c2, rfl, hc2, hC2⟩ := Kd.R_reads hR2
                      replace hC2 := Aside0.mk hC2
                      clear hb2 hR2 hR1 hC1
                      refine hK.out _ _ ?_ (fun hHeld => ?_)
                      · exact hSl.out _ hX.out
                      clear hK K
                      try simp only [Act.put, List.setIfInBounds_toArray, List.set_cons_zero, List.set_cons_succ]
                      as_aux_lemma =>
                       refine wpAnyH_ready (rs := [44]) (by kernel_rfl) (by simp) ?_
                       refine AllReadyH.cons (o := { dst := some 107, op := Go.Op.call { callee := Go.Callee.value (Go.Operand.func 10), args := #[Go.Operand.tmp 106], argTypes := #[22] }, type := 27, pos := "law.go:41", after := #[{ on := 43, ground := Go.Ground.data }, { on := 43, ground := Go.Ground.chain }, { on := 35, ground := Go.Ground.guard }], guard := some (35, true) }) rfl (fun K hK => ?_) AllReadyH.nil
                       refine goes_ (N := some 107) («as» := #[.tmp 106]) Tryd.func10 (by kernel_rfl) rfl #[.slice A2 (l0 ++ [a1]).length c2] (by kernel_rfl) rfl rfl (by kernel_rfl) ?_
                       with_reducible refine (COf.out A2 c2 _ hC2.out hc2).mono ?_
                       rintro e X ⟨rfl, hb⟩
                       refine ⟨_, rfl, ?_⟩
                       replace hX := Aside0.mk (below_step hX.out hb)
                       clear hb hC2 hc2
                       refine hK.out _ _ ?_ (fun hHeld => ?_)
                       · exact hSl.out _ hX.out
                       clear hK K
                       try simp only [Act.put, List.setIfInBounds_toArray, List.set_cons_zero, List.set_cons_succ]
                       refine wpAnyH_take (i := 45) (oi := { dst := some 108, op := Go.Op.binOp Go.BinOp.eql 27 (Go.Operand.tmp 101) (Go.Operand.tmp 107) 27, type := 4, pos := "law.go:41", after := #[{ on := 38, ground := Go.Ground.data }, { on := 44, ground := Go.Ground.data }, { on := 35, ground := Go.Ground.guard }], guard := some (35, true) }) (v := ?_) rfl (by kernel_rfl) (by kernel_rfl) (by kernel_rfl) (fun _ _ _ h => h) (Or.inl ⟨by kernel_rfl, ?_⟩) (by assumption) ?_
                       rotate_left
                       · intro W hSw; go_simp; first | done | with_reducible rfl
                       try simp only [Act.put, List.setIfInBounds_toArray, List.set_cons_zero, List.set_cons_succ]
                       refine wpAnyH_take (i := 46) (oi := { dst := some 109, op := Go.Op.pick (Go.Operand.tmp 98) (Go.Operand.tmp 108) (Go.Operand.const (Go.Value.bool false)), type := 4, pos := "law.go:41", after := #[{ on := 35, ground := Go.Ground.data }, { on := 45, ground := Go.Ground.data }], guard := none }) (v := ?_) rfl (by kernel_rfl) (by kernel_rfl) (by kernel_rfl) (fun _ _ _ h => h) (Or.inl ⟨by kernel_rfl, ?_⟩) (by assumption) ?_
                       rotate_left
                       · intro W hSw; go_simp; first | done | with_reducible rfl
                       try simp only [Act.put, List.setIfInBounds_toArray, List.set_cons_zero, List.set_cons_succ]
                       refine wpAnyH_take (i := 47) (oi := { dst := some 110, op := Go.Op.move (Go.Operand.tmp 109), type := 4, pos := "law.go:41", after := #[{ on := 46, ground := Go.Ground.data }, { on := 44, ground := Go.Ground.chain }], guard := none }) (v := ?_) rfl (by kernel_rfl) (by kernel_rfl) (by kernel_rfl) (fun _ _ _ h => h) (Or.inl ⟨by kernel_rfl, ?_⟩) (by assumption) ?_
                       rotate_left
                       · intro W hSw; go_simp; first | done | with_reducible rfl
                       try simp only [Act.put, List.setIfInBounds_toArray, List.set_cons_zero, List.set_cons_succ]
                       refine wpAnyH_take (i := 48) (oi := { dst := some 111, op := Go.Op.load 27 (Go.Operand.tmp 7), type := 27, pos := "law.go:41", after := #[{ on := 47, ground := Go.Ground.guard }], guard := some (47, true) }) (v := ?_) rfl (by kernel_rfl) (by kernel_rfl) (by kernel_rfl) (fun _ _ _ h => h) (Or.inl ⟨by kernel_rfl, ?_⟩) (by assumption) ?_
                       rotate_left
                       · intro W hSw; go_simp; first | done | with_reducible rfl
                       try simp only [Act.put, List.setIfInBounds_toArray, List.set_cons_zero, List.set_cons_succ]
                       refine wpAnyH_take (i := 49) (oi := { dst := some 112, op := Go.Op.move (Go.Operand.tmp 1), type := 3, pos := "law.go:41", after := #[{ on := 47, ground := Go.Ground.guard }], guard := some (47, true) }) (v := ?_) rfl (by kernel_rfl) (by kernel_rfl) (by kernel_rfl) (fun _ _ _ h => h) (Or.inl ⟨by kernel_rfl, ?_⟩) (by assumption) ?_
                       rotate_left
                       · intro W hSw; go_simp; first | done | with_reducible rfl
                       try simp only [Act.put, List.setIfInBounds_toArray, List.set_cons_zero, List.set_cons_succ]
                       refine wpAnyH_take (i := 51) (oi := { dst := some 114, op := Go.Op.move (Go.Operand.tmp 1), type := 3, pos := "law.go:41", after := #[{ on := 47, ground := Go.Ground.guard }], guard := some (47, true) }) (v := ?_) rfl (by kernel_rfl) (by kernel_rfl) (by kernel_rfl) (fun _ _ _ h => h) (Or.inl ⟨by kernel_rfl, ?_⟩) (by assumption) ?_
                       rotate_left
                       · intro W hSw; go_simp; first | done | with_reducible rfl
                       try simp only [Act.put, List.setIfInBounds_toArray, List.set_cons_zero, List.set_cons_succ]
                       refine wpAnyH_take (i := 53) (oi := { dst := some 116, op := Go.Op.move (Go.Operand.tmp 1), type := 3, pos := "law.go:41", after := #[{ on := 47, ground := Go.Ground.guard }], guard := some (47, true) }) (v := ?_) rfl (by kernel_rfl) (by kernel_rfl) (by kernel_rfl) (fun _ _ _ h => h) (Or.inl ⟨by kernel_rfl, ?_⟩) (by assumption) ?_
                       rotate_left
                       · intro W hSw; go_simp; first | done | with_reducible rfl
                       try simp only [Act.put, List.setIfInBounds_toArray, List.set_cons_zero, List.set_cons_succ]
                       refine wpAnyH_take (i := 55) (oi := { dst := some 118, op := Go.Op.move (Go.Operand.tmp 11), type := 4, pos := "law.go:41", after := #[{ on := 47, ground := Go.Ground.guard }], guard := some (47, true) }) (v := ?_) rfl (by kernel_rfl) (by kernel_rfl) (by kernel_rfl) (fun _ _ _ h => h) (Or.inl ⟨by kernel_rfl, ?_⟩) (by assumption) ?_
                       rotate_left
                       · intro W hSw; go_simp; first | done | with_reducible rfl
                       try simp only [Act.put, List.setIfInBounds_toArray, List.set_cons_zero, List.set_cons_succ]
                       refine wpAnyH_ready (rs := [50]) (by kernel_rfl) (by simp) ?_
                       refine AllReadyH.cons (o := { dst := some 113, op := Go.Op.call { callee := Go.Callee.value (Go.Operand.func 19), args := #[Go.Operand.tmp 111, Go.Operand.tmp 112], argTypes := #[27, 3] }, type := 27, pos := "law.go:41", after := #[{ on := 48, ground := Go.Ground.data }, { on := 49, ground := Go.Ground.data }, { on := 47, ground := Go.Ground.chain }, { on := 47, ground := Go.Ground.guard }], guard := some (47, true) }) rfl (fun K hK => ?_) AllReadyH.nil
                       refine goes_ (N := some 113) («as» := #[.tmp 111, .tmp 112]) Tryd.func19 (by kernel_rfl) rfl #[.agg (agC .u64 65 ff), .int .i64 a1] (by kernel_rfl) rfl rfl (by kernel_rfl) ?_
                       with_reducible refine (CO.out _).mono ?_
                       rintro e X ⟨rfl, hb⟩
                       refine ⟨_, rfl, ?_⟩
                       replace hX := Aside0.mk (below_step hX.out hb)
                       (try replace hC1 := Aside0.mk (Kd.C_below hC1.out hb))
                       (try replace hR1 := Aside0.mk (Kd.R_below hR1.out hb))
                       clear hb
                       refine hK.out _ _ ?_ (fun hHeld => ?_)
                       · exact hSl.out _ hX.out
                       clear hK K
                       try simp only [Act.put, List.setIfInBounds_toArray, List.set_cons_zero, List.set_cons_succ]
                       as_aux_lemma =>
                        refine wpAnyH_ready (rs := [52]) (by kernel_rfl) (by simp) ?_
                        refine AllReadyH.cons (o := { dst := some 115, op := Go.Op.call { callee := Go.Callee.value (Go.Operand.func 18), args := #[Go.Operand.tmp 113, Go.Operand.tmp 114], argTypes := #[27, 3] }, type := 27, pos := "law.go:41", after := #[{ on := 50, ground := Go.Ground.data }, { on := 51, ground := Go.Ground.data }, { on := 50, ground := Go.Ground.chain }, { on := 47, ground := Go.Ground.guard }], guard := some (47, true) }) rfl (fun K hK => ?_) AllReadyH.nil
                        refine goes_ (N := some 115) («as» := #[.tmp 113, .tmp 114]) Tryd.func18 (by kernel_rfl) rfl #[.agg (agC .u64 65 fWo), .int .i64 a1] (by kernel_rfl) rfl rfl (by kernel_rfl) ?_
                        with_reducible refine (CWW.out _).mono ?_
                        rintro e X ⟨rfl, hb⟩
                        refine ⟨_, rfl, ?_⟩
                        replace hX := Aside0.mk (below_step hX.out hb)
                        (try replace hC1 := Aside0.mk (Kd.C_below hC1.out hb))
                        (try replace hR1 := Aside0.mk (Kd.R_below hR1.out hb))
                        clear hb
                        refine hK.out _ _ ?_ (fun hHeld => ?_)
                        · exact hSl.out _ hX.out
                        clear hK K
                        try simp only [Act.put, List.setIfInBounds_toArray, List.set_cons_zero, List.set_cons_succ]
                        refine wpAnyH_ready (rs := [54]) (by kernel_rfl) (by simp) ?_
                        refine AllReadyH.cons (o := { dst := some 117, op := Go.Op.call { callee := Go.Callee.value (Go.Operand.func 17), args := #[Go.Operand.tmp 115, Go.Operand.tmp 116], argTypes := #[27, 3] }, type := 4, pos := "law.go:41", after := #[{ on := 52, ground := Go.Ground.data }, { on := 53, ground := Go.Ground.data }, { on := 52, ground := Go.Ground.chain }, { on := 47, ground := Go.Ground.guard }], guard := some (47, true) }) rfl (fun K hK => ?_) AllReadyH.nil
                        refine goes_ (N := some 117) («as» := #[.tmp 115, .tmp 116]) Tryd.func17 (by kernel_rfl) rfl #[.agg (agC .u64 65 fWW), .int .i64 a1] (by kernel_rfl) rfl rfl (by kernel_rfl) ?_
                        with_reducible refine (CHWW.out _).mono ?_
                        rintro e X ⟨rfl, hb⟩
                        refine ⟨_, rfl, ?_⟩
                        replace hX := Aside0.mk (below_step hX.out hb)
                        (try replace hC1 := Aside0.mk (Kd.C_below hC1.out hb))
                        (try replace hR1 := Aside0.mk (Kd.R_below hR1.out hb))
                        clear hb
                        refine hK.out _ _ ?_ (fun hHeld => ?_)
                        · exact hSl.out _ hX.out
                        clear hK K
                        try simp only [Act.put, List.setIfInBounds_toArray, List.set_cons_zero, List.set_cons_succ]
                        as_aux_lemma =>
                         refine wpAnyH_take (i := 56) (oi := { dst := some 119, op := Go.Op.binOp Go.BinOp.eql 4 (Go.Operand.tmp 117) (Go.Operand.tmp 118) 4, type := 4, pos := "law.go:41", after := #[{ on := 54, ground := Go.Ground.data }, { on := 55, ground := Go.Ground.data }, { on := 47, ground := Go.Ground.guard }], guard := some (47, true) }) (v := ?_) rfl (by kernel_rfl) (by kernel_rfl) (by kernel_rfl) (fun _ _ _ h => h) (Or.inl ⟨by kernel_rfl, ?_⟩) (by assumption) ?_
                         rotate_left
                         · intro W hSw; go_simp; first | done | with_reducible rfl
                         try simp only [Act.put, List.setIfInBounds_toArray, List.set_cons_zero, List.set_cons_succ]
                         refine wpAnyH_take (i := 57) (oi := { dst := some 120, op := Go.Op.pick (Go.Operand.tmp 110) (Go.Operand.tmp 119) (Go.Operand.const (Go.Value.bool false)), type := 4, pos := "law.go:41", after := #[{ on := 47, ground := Go.Ground.data }, { on := 56, ground := Go.Ground.data }], guard := none }) (v := ?_) rfl (by kernel_rfl) (by kernel_rfl) (by kernel_rfl) (fun _ _ _ h => h) (Or.inl ⟨by kernel_rfl, ?_⟩) (by assumption) ?_
                         rotate_left
                         · intro W hSw; go_simp; first | done | with_reducible rfl
                         try simp only [Act.put, List.setIfInBounds_toArray, List.set_cons_zero, List.set_cons_succ]
                         refine wpAnyH_take (i := 58) (oi := { dst := some 121, op := Go.Op.move (Go.Operand.tmp 120), type := 4, pos := "law.go:41", after := #[{ on := 57, ground := Go.Ground.data }, { on := 54, ground := Go.Ground.chain }], guard := none }) (v := ?_) rfl (by kernel_rfl) (by kernel_rfl) (by kernel_rfl) (fun _ _ _ h => h) (Or.inl ⟨by kernel_rfl, ?_⟩) (by assumption) ?_
                         rotate_left
                         · intro W hSw; go_simp; first | done | with_reducible rfl
                         try simp only [Act.put, List.setIfInBounds_toArray, List.set_cons_zero, List.set_cons_succ]
                         refine wpAnyH_take (i := 59) (oi := { dst := some 122, op := Go.Op.move (Go.Operand.tmp 12), type := 4, pos := "law.go:41", after := #[{ on := 58, ground := Go.Ground.guard }], guard := some (58, true) }) (v := ?_) rfl (by kernel_rfl) (by kernel_rfl) (by kernel_rfl) (fun _ _ _ h => h) (Or.inl ⟨by kernel_rfl, ?_⟩) (by assumption) ?_
                         rotate_left
                         · intro W hSw; go_simp; first | done | with_reducible rfl
                         try simp only [Act.put, List.setIfInBounds_toArray, List.set_cons_zero, List.set_cons_succ]
                         refine wpAnyH_take (i := 60) (oi := { dst := some 123, op := Go.Op.move (Go.Operand.tmp 122), type := 4, pos := "law.go:41", after := #[{ on := 59, ground := Go.Ground.data }, { on := 58, ground := Go.Ground.chain }, { on := 58, ground := Go.Ground.guard }], guard := some (58, true) }) (v := ?_) rfl (by kernel_rfl) (by kernel_rfl) (by kernel_rfl) (fun _ _ _ h => h) (Or.inl ⟨by kernel_rfl, ?_⟩) (by assumption) ?_
                         rotate_left
                         · intro W hSw; go_simp; first | done | with_reducible rfl
                         try simp only [Act.put, List.setIfInBounds_toArray, List.set_cons_zero, List.set_cons_succ]
                         refine wpAnyH_take (i := 61) (oi := { dst := some 124, op := Go.Op.load 27 (Go.Operand.tmp 7), type := 27, pos := "law.go:41", after := #[{ on := 60, ground := Go.Ground.guard }], guard := some (60, false) }) (v := undef) rfl (by kernel_rfl) (by kernel_rfl) (by kernel_rfl) (fun _ _ _ h => h) (Or.inr ⟨by kernel_rfl, rfl⟩) (by assumption) ?_
                         try simp only [Act.put, List.setIfInBounds_toArray, List.set_cons_zero, List.set_cons_succ]
                         refine wpAnyH_take (i := 62) (oi := { dst := some 125, op := Go.Op.move (Go.Operand.tmp 1), type := 3, pos := "law.go:41", after := #[{ on := 60, ground := Go.Ground.guard }], guard := some (60, false) }) (v := undef) rfl (by kernel_rfl) (by kernel_rfl) (by kernel_rfl) (fun _ _ _ h => h) (Or.inr ⟨by kernel_rfl, rfl⟩) (by assumption) ?_
                         try simp only [Act.put, List.setIfInBounds_toArray, List.set_cons_zero, List.set_cons_succ]
                         refine wpAnyH_take (i := 63) (oi := { dst := some 126, op := Go.Op.call { callee := Go.Callee.value (Go.Operand.func 19), args := #[Go.Operand.tmp 124, Go.Operand.tmp 125], argTypes := #[27, 3] }, type := 27, pos := "law.go:41", after := #[{ on := 61, ground := Go.Ground.data }, { on := 62, ground := Go.Ground.data }, { on := 60, ground := Go.Ground.chain }, { on := 60, ground := Go.Ground.guard }], guard := some (60, false) }) (v := undef) rfl (by kernel_rfl) (by kernel_rfl) (by kernel_rfl) (fun _ _ _ h => h) (Or.inr ⟨by kernel_rfl, rfl⟩) (by assumption) ?_
                         try simp only [Act.put, List.setIfInBounds_toArray, List.set_cons_zero, List.set_cons_succ]
                         refine wpAnyH_take (i := 64) (oi := { dst := some 127, op := Go.Op.load 27 (Go.Operand.tmp 7), type := 27, pos := "law.go:41", after := #[{ on := 60, ground := Go.Ground.guard }], guard := some (60, false) }) (v := undef) rfl (by kernel_rfl) (by kernel_rfl) (by kernel_rfl) (fun _ _ _ h => h) (Or.inr ⟨by kernel_rfl, rfl⟩) (by assumption) ?_
                         try simp only [Act.put, List.setIfInBounds_toArray, List.set_cons_zero, List.set_cons_succ]
                         refine wpAnyH_take (i := 65) (oi := { dst := some 128, op := Go.Op.binOp Go.BinOp.eql 27 (Go.Operand.tmp 126) (Go.Operand.tmp 127) 27, type := 4, pos := "law.go:41", after := #[{ on := 63, ground := Go.Ground.data }, { on := 64, ground := Go.Ground.data }, { on := 60, ground := Go.Ground.guard }], guard := some (60, false) }) (v := undef) rfl (by kernel_rfl) (by kernel_rfl) (by kernel_rfl) (fun _ _ _ h => h) (Or.inr ⟨by kernel_rfl, rfl⟩) (by assumption) ?_
                         try simp only [Act.put, List.setIfInBounds_toArray, List.set_cons_zero, List.set_cons_succ]
                         refine wpAnyH_take (i := 66) (oi := { dst := some 129, op := Go.Op.pick (Go.Operand.tmp 123) (Go.Operand.const (Go.Value.bool true)) (Go.Operand.tmp 128), type := 4, pos := "law.go:41", after := #[{ on := 60, ground := Go.Ground.data }, { on := 65, ground := Go.Ground.data }, { on := 58, ground := Go.Ground.guard }], guard := some (58, true) }) (v := ?_) rfl (by kernel_rfl) (by kernel_rfl) (by kernel_rfl) (fun _ _ _ h => h) (Or.inl ⟨by kernel_rfl, ?_⟩) (by assumption) ?_
                         rotate_left
                         · intro W hSw; go_simp; first | done | with_reducible rfl
                         try simp only [Act.put, List.setIfInBounds_toArray, List.set_cons_zero, List.set_cons_succ]
                         refine wpAnyH_take (i := 67) (oi := { dst := some 130, op := Go.Op.pick (Go.Operand.tmp 121) (Go.Operand.tmp 129) (Go.Operand.const (Go.Value.bool false)), type := 4, pos := "law.go:41", after := #[{ on := 58, ground := Go.Ground.data }, { on := 66, ground := Go.Ground.data }], guard := none }) (v := ?_) rfl (by kernel_rfl) (by kernel_rfl) (by kernel_rfl) (fun _ _ _ h => h) (Or.inl ⟨by kernel_rfl, ?_⟩) (by assumption) ?_
                         rotate_left
                         · intro W hSw; go_simp; first | done | with_reducible rfl
                         try simp only [Act.put, List.setIfInBounds_toArray, List.set_cons_zero, List.set_cons_succ]
                         refine wpAnyH_ready (rs := [68]) (by kernel_rfl) (by simp) ?_
                         refine AllReadyH.cons (o := { dst := none, op := Go.Op.store 4 (Go.Operand.tmp 6) (Go.Operand.tmp 130), type := 0, pos := "law.go:41", after := ([{ on := 67, ground := Go.Ground.data }, { on := 63, ground := Go.Ground.chain }, { on := 0, ground := Go.Ground.phase }, { on := 1, ground := Go.Ground.phase }, { on := 2, ground := Go.Ground.phase }, { on := 3, ground := Go.Ground.phase }, { on := 4, ground := Go.Ground.phase }, { on := 5, ground := Go.Ground.phase }, { on := 6, ground := Go.Ground.phase }, { on := 7, ground := Go.Ground.phase }, { on := 8, ground := Go.Ground.phase }, { on := 9, ground := Go.Ground.phase }, { on := 10, ground := Go.Ground.phase }, { on := 11, ground := Go.Ground.phase }, { on := 12, ground := Go.Ground.phase }, { on := 13, ground := Go.Ground.phase }, { on := 14, ground := Go.Ground.phase }, { on := 15, ground := Go.Ground.phase }, { on := 16, ground := Go.Ground.phase }, { on := 17, ground := Go.Ground.phase }, { on := 18, ground := Go.Ground.phase }, { on := 19, ground := Go.Ground.phase }, { on := 20, ground := Go.Ground.phase }, { on := 21, ground := Go.Ground.phase }, { on := 22, ground := Go.Ground.phase }, { on := 23, ground := Go.Ground.phase }, { on := 24, ground := Go.Ground.phase }, { on := 25, ground := Go.Ground.phase }, { on := 26, ground := Go.Ground.phase }, { on := 27, ground := Go.Ground.phase }, { on := 28, ground := Go.Ground.phase }, { on := 29, ground := Go.Ground.phase }, { on := 30, ground := Go.Ground.phase }, { on := 31, ground := Go.Ground.phase }, { on := 32, ground := Go.Ground.phase }].append [{ on := 33, ground := Go.Ground.phase }, { on := 34, ground := Go.Ground.phase }, { on := 35, ground := Go.Ground.phase }, { on := 36, ground := Go.Ground.phase }, { on := 37, ground := Go.Ground.phase }, { on := 38, ground := Go.Ground.phase }, { on := 39, ground := Go.Ground.phase }, { on := 40, ground := Go.Ground.phase }, { on := 41, ground := Go.Ground.phase }, { on := 42, ground := Go.Ground.phase }, { on := 43, ground := Go.Ground.phase }, { on := 44, ground := Go.Ground.phase }, { on := 45, ground := Go.Ground.phase }, { on := 46, ground := Go.Ground.phase }, { on := 47, ground := Go.Ground.phase }, { on := 48, ground := Go.Ground.phase }, { on := 49, ground := Go.Ground.phase }, { on := 50, ground := Go.Ground.phase }, { on := 51, ground := Go.Ground.phase }, { on := 52, ground := Go.Ground.phase }, { on := 53, ground := Go.Ground.phase }, { on := 54, ground := Go.Ground.phase }, { on := 55, ground := Go.Ground.phase }, { on := 56, ground := Go.Ground.phase }, { on := 57, ground := Go.Ground.phase }, { on := 58, ground := Go.Ground.phase }, { on := 59, ground := Go.Ground.phase }, { on := 60, ground := Go.Ground.phase }, { on := 61, ground := Go.Ground.phase }, { on := 62, ground := Go.Ground.phase }, { on := 63, ground := Go.Ground.phase }, { on := 64, ground := Go.Ground.phase }, { on := 65, ground := Go.Ground.phase }, { on := 66, ground := Go.Ground.phase }, { on := 67, ground := Go.Ground.phase }]).toArray, guard := none }) rfl (fun K hK => ?_) AllReadyH.nil
                         have hc6 := (hS6.out _ hX.out).1
                         have hz6 := (hS6.out _ hX.out).2
                         go_simp
                         refine hK.out _ _ ?_ (fun hHeld => ?_)
                         · exact hSr.out _ hX.out
                         clear hK K
                         try simp only [Act.put, List.setIfInBounds_toArray, List.set_cons_zero, List.set_cons_succ]
                         refine wpAnyH_done (by kernel_rfl) ?_ _
                         try simp only [Act.put, List.setIfInBounds_toArray, List.set_cons_zero, List.set_cons_succ, List.getElem_toArray, List.getElem_cons_zero, List.getElem_cons_succ]
                         refine NoPanic.normal ?_
                         (try dsimp only [Exit.then])
                         refine hKz.out _ _ ?_
                         go_wp2_with (fail)
                         have hKX := (Below.heap_setCell _ ⟨w.heap.size + 1, 0, none⟩ (Value.bool true) D (by show D ≠ w.heap.size + 1; omega)).trans (blk_below hKe.out hX.out)
                         refine ⟨by simp, .inl ⟨_, _, rfl, run_takeDeferred hKX, ?_⟩⟩
                         refine ⟨_, results_one rfl _ _ ⟨w.heap.size + 1, 0, none⟩ (.bool true) Tryd.underlying4 rfl (cell_kept (World.cell?_setCell_same' _ _ _ (by rw [hc6]; rfl)) (grownBy_putObj' _ D (.deferred none)) (fun r e => by cases e; exact ⟨_, hKX, rfl⟩)), rfl, ?_⟩
                         exact (below_set (below_step HBe.out hX.out) (by omega)).trans (belowK_b (w := w) (Nat.le_refl _) _ D _ _ (by omega) hKX rfl rfl)
                · have hC1 := Aside0.mk (one_new hX.out a1 3)
                  (try replace hR1 := Aside0.mk (Kd.R_below hR1.out (below_alloc (Below.refl _ _) (.cells #[.int .i64 a1] 3 (0, 0)))))
                  replace hX := Aside0.mk (below_alloc hX.out (.cells #[.int .i64 a1] 3 (0, 0)))
                  go_simp
                  refine hK.out _ _ ?_ (fun hHeld => ?_)
                  · exact hSl.out _ hX.out
                  clear hK K
                  try simp only [Act.put, List.setIfInBounds_toArray, List.set_cons_zero, List.set_cons_succ]
                  as_aux_lemma =>
                   refine wpAnyH_ready (rs := [38]) (by kernel_rfl) (by simp) ?_
                   refine AllReadyH.cons (o := { dst := some 101, op := Go.Op.call { callee := Go.Callee.value (Go.Operand.func 18), args := #[Go.Operand.tmp 99, Go.Operand.tmp 100], argTypes := #[27, 3] }, type := 27, pos := "law.go:41", after := #[{ on := 36, ground := Go.Ground.data }, { on := 37, ground := Go.Ground.data }, { on := 35, ground := Go.Ground.chain }, { on := 35, ground := Go.Ground.guard }], guard := some (35, true) }) rfl (fun K hK => ?_) AllReadyH.nil
                   refine goes_ (N := some 101) («as» := #[.tmp 99, .tmp 100]) Tryd.func18 (by kernel_rfl) rfl #[.agg (agC .u64 65 ff), .int .i64 a1] (by kernel_rfl) rfl rfl (by kernel_rfl) ?_
                   with_reducible refine (CW.out _).mono ?_
                   rintro e X ⟨rfl, hb⟩
                   refine ⟨_, rfl, ?_⟩
                   replace hX := Aside0.mk (below_step hX.out hb)
                   (try replace hC1 := Aside0.mk (Kd.C_below hC1.out hb))
                   (try replace hR1 := Aside0.mk (Kd.R_below hR1.out hb))
                   clear hb
                   refine hK.out _ _ ?_ (fun hHeld => ?_)
                   · exact hSl.out _ hX.out
                   clear hK K
                   try simp only [Act.put, List.setIfInBounds_toArray, List.set_cons_zero, List.set_cons_succ]
                   as_aux_lemma =>
                    refine wpAnyH_ready (rs := [40]) (by kernel_rfl) (by simp) ?_
                    refine AllReadyH.cons (o := { dst := some 103, op := Go.Op.call { callee := Go.Callee.builtin Go.Builtin.append, args := #[Go.Operand.const (Go.Value.slice none 0 0), Go.Operand.tmp 102], argTypes := #[22, 22] }, type := 22, pos := "law.go:41", after := #[{ on := 39, ground := Go.Ground.data }, { on := 38, ground := Go.Ground.chain }, { on := 35, ground := Go.Ground.guard }], guard := some (35, true) }) rfl (fun K hK => ?_) AllReadyH.nil
                    refine Kd.R_append_rows_step (Kd.int .i64) we.heap.size (by kernel_rfl) (.const (.slice none 0 0)) (.tmp 102) 22 3 (.int .i64 0) 8 rfl Tryd.underlying22 (by kernel_rfl) rfl (by decide) (by decide) (.slice none 0 0) [] l0 A0 l0.length c0 (fun _ => True) (fun _ => False) rfl rfl (Kd.R_nil _ _ _ _ _) (Kd.C_below HRe.out hX.out) (fun x cs h => h) (fun _ h => h.elim) (fun _ _ => trivial) hX.out (below_size hX.out) (by simp; omega) ?_
                    intro v1 X1 hR1 hb1 hg1 _
                    rw [List.nil_append] at hR1
                    replace hX := Aside0.mk hb1
                    replace hR1 := Aside0.mk hR1
                    (try replace hC1 := Aside0.mk (Kd.C_below hC1.out ((Below.refl _ _).grown hg1 (Nat.le_refl _) (fun k e => by cases e))))
                    clear hb1 hg1
                    refine hK.out _ _ ?_ (fun hHeld => ?_)
                    · exact hSl.out _ hX.out
                    clear hK K
                    try simp only [Act.put, List.setIfInBounds_toArray, List.set_cons_zero, List.set_cons_succ]
                    refine wpAnyH_ready (rs := [43]) (by kernel_rfl) (by simp) ?_
                    refine AllReadyH.cons (o := { dst := some 106, op := Go.Op.call { callee := Go.Callee.builtin Go.Builtin.append, args := #[Go.Operand.tmp 103, Go.Operand.tmp 105], argTypes := #[22, 22] }, type := 22, pos := "law.go:41", after := #[{ on := 40, ground := Go.Ground.data }, { on := 42, ground := Go.Ground.data }, { on := 40, ground := Go.Ground.chain }, { on := 35, ground := Go.Ground.guard }], guard := some (35, true) }) rfl (fun K hK => ?_) AllReadyH.nil
                    refine Kd.R_append_rows_step (Kd.int .i64) we.heap.size (by kernel_rfl) (.tmp 103) (.tmp 105) 22 3 (.int .i64 0) 8 rfl Tryd.underlying22 (by kernel_rfl) rfl (by decide) (by decide) v1 l0 [a1] _ 1 1 (fun _ => True) (fun _ => False) rfl rfl hR1.out hC1.out (fun x cs h => h) (fun _ h => h.elim) (fun _ _ => trivial) hX.out (below_size hX.out) (by omega) ?_
                    intro v2 X2 hR2 hb2 _ _
                    replace hX := Aside0.mk hb2
                    obtain ⟨A2, c2, rfl, hc2, hC2⟩ := Kd.R_reads hR2
                    replace hC2 := Aside0.mk hC2
                    clear hb2 hR2 hR1 hC1
                    refine hK.out _ _ ?_ (fun hHeld => ?_)
                    · exact hSl.out _ hX.out
                    clear hK K
                    try simp only [Act.put, List.setIfInBounds_toArray, List.set_cons_zero, List.set_cons_succ]
                    as_aux_lemma =>
                     refine wpAnyH_ready (rs := [44]) (by kernel_rfl) (by simp) ?_
                     refine AllReadyH.cons (o := { dst := some 107, op := Go.Op.call { callee := Go.Callee.value (Go.Operand.func 10), args := #[Go.Operand.tmp 106], argTypes := #[22] }, type := 27, pos := "law.go:41", after := #[{ on := 43, ground := Go.Ground.data }, { on := 43, ground := Go.Ground.chain }, { on := 35, ground := Go.Ground.guard }], guard := some (35, true) }) rfl (fun K hK => ?_) AllReadyH.nil
                     refine goes_ (N := some 107) («as» := #[.tmp 106]) Tryd.func10 (by kernel_rfl) rfl #[.slice A2 (l0 ++ [a1]).length c2] (by kernel_rfl) rfl rfl (by kernel_rfl) ?_
                     with_reducible refine (COf.out A2 c2 _ hC2.out hc2).mono ?_
                     rintro e X ⟨rfl, hb⟩
                     refine ⟨_, rfl, ?_⟩
                     replace hX := Aside0.mk (below_step hX.out hb)
                     clear hb hC2 hc2
                     refine hK.out _ _ ?_ (fun hHeld => ?_)
                     · exact hSl.out _ hX.out
                     clear hK K
                     try simp only [Act.put, List.setIfInBounds_toArray, List.set_cons_zero, List.set_cons_succ]
                     refine wpAnyH_take (i := 45) (oi := { dst := some 108, op := Go.Op.binOp Go.BinOp.eql 27 (Go.Operand.tmp 101) (Go.Operand.tmp 107) 27, type := 4, pos := "law.go:41", after := #[{ on := 38, ground := Go.Ground.data }, { on := 44, ground := Go.Ground.data }, { on := 35, ground := Go.Ground.guard }], guard := some (35, true) }) (v := ?_) rfl (by kernel_rfl) (by kernel_rfl) (by kernel_rfl) (fun _ _ _ h => h) (Or.inl ⟨by kernel_rfl, ?_⟩) (by assumption) ?_
                     rotate_left
                     · intro W hSw; go_simp; first | done | with_reducible rfl
                     try simp only [Act.put, List.setIfInBounds_toArray, List.set_cons_zero, List.set_cons_succ]
                     refine wpAnyH_take (i := 46) (oi := { dst := some 109, op := Go.Op.pick (Go.Operand.tmp 98) (Go.Operand.tmp 108) (Go.Operand.const (Go.Value.bool false)), type := 4, pos := "law.go:41", after := #[{ on := 35, ground := Go.Ground.data }, { on := 45, ground := Go.Ground.data }], guard := none }) (v := ?_) rfl (by kernel_rfl) (by kernel_rfl) (by kernel_rfl) (fun _ _ _ h => h) (Or.inl ⟨by kernel_rfl, ?_⟩) (by assumption) ?_
                     rotate_left
                     · intro W hSw; go_simp; first | done | with_reducible rfl
                     try simp only [Act.put, List.setIfInBounds_toArray, List.set_cons_zero, List.set_cons_succ]
                     refine wpAnyH_take (i := 47) (oi := { dst := some 110, op := Go.Op.move (Go.Operand.tmp 109), type := 4, pos := "law.go:41", after := #[{ on := 46, ground := Go.Ground.data }, { on := 44, ground := Go.Ground.chain }], guard := none }) (v := ?_) rfl (by kernel_rfl) (by kernel_rfl) (by kernel_rfl) (fun _ _ _ h => h) (Or.inl ⟨by kernel_rfl, ?_⟩) (by assumption) ?_
                     rotate_left
                     · intro W hSw; go_simp; first | done | with_reducible rfl
                     try simp only [Act.put, List.setIfInBounds_toArray, List.set_cons_zero, List.set_cons_succ]
                     refine wpAnyH_take (i := 48) (oi := { dst := some 111, op := Go.Op.load 27 (Go.Operand.tmp 7), type := 27, pos := "law.go:41", after := #[{ on := 47, ground := Go.Ground.guard }], guard := some (47, true) }) (v := ?_) rfl (by kernel_rfl) (by kernel_rfl) (by kernel_rfl) (fun _ _ _ h => h) (Or.inl ⟨by kernel_rfl, ?_⟩) (by assumption) ?_
                     rotate_left
                     · intro W hSw; go_simp; first | done | with_reducible rfl
                     try simp only [Act.put, List.setIfInBounds_toArray, List.set_cons_zero, List.set_cons_succ]
                     refine wpAnyH_take (i := 49) (oi := { dst := some 112, op := Go.Op.move (Go.Operand.tmp 1), type := 3, pos := "law.go:41", after := #[{ on := 47, ground := Go.Ground.guard }], guard := some (47, true) }) (v := ?_) rfl (by kernel_rfl) (by kernel_rfl) (by kernel_rfl) (fun _ _ _ h => h) (Or.inl ⟨by kernel_rfl, ?_⟩) (by assumption) ?_
                     rotate_left
                     · intro W hSw; go_simp; first | done | with_reducible rfl
                     try simp only [Act.put, List.setIfInBounds_toArray, List.set_cons_zero, List.set_cons_succ]
                     refine wpAnyH_take (i := 51) (oi := { dst := some 114, op := Go.Op.move (Go.Operand.tmp 1), type := 3, pos := "law.go:41", after := #[{ on := 47, ground := Go.Ground.guard }], guard := some (47, true) }) (v := ?_) rfl (by kernel_rfl) (by kernel_rfl) (by kernel_rfl) (fun _ _ _ h => h) (Or.inl ⟨by kernel_rfl, ?_⟩) (by assumption) ?_
                     rotate_left
                     · intro W hSw; go_simp; first | done | with_reducible rfl
                     try simp only [Act.put, List.setIfInBounds_toArray, List.set_cons_zero, List.set_cons_succ]
                     refine wpAnyH_take (i := 53) (oi := { dst := some 116, op := Go.Op.move (Go.Operand.tmp 1), type := 3, pos := "law.go:41", after := #[{ on := 47, ground := Go.Ground.guard }], guard := some (47, true) }) (v := ?_) rfl (by kernel_rfl) (by kernel_rfl) (by kernel_rfl) (fun _ _ _ h => h) (Or.inl ⟨by kernel_rfl, ?_⟩) (by assumption) ?_
                     rotate_left
                     · intro W hSw; go_simp; first | done | with_reducible rfl
                     try simp only [Act.put, List.setIfInBounds_toArray, List.set_cons_zero, List.set_cons_succ]
                     refine wpAnyH_take (i := 55) (oi := { dst := some 118, op := Go.Op.move (Go.Operand.tmp 11), type := 4, pos := "law.go:41", after := #[{ on := 47, ground := Go.Ground.guard }], guard := some (47, true) }) (v := ?_) rfl (by kernel_rfl) (by kernel_rfl) (by kernel_rfl) (fun _ _ _ h => h) (Or.inl ⟨by kernel_rfl, ?_⟩) (by assumption) ?_
                     rotate_left
                     · intro W hSw; go_simp; first | done | with_reducible rfl
                     try simp only [Act.put, List.setIfInBounds_toArray, List.set_cons_zero, List.set_cons_succ]
                     refine wpAnyH_ready (rs := [50]) (by kernel_rfl) (by simp) ?_
                     refine AllReadyH.cons (o := { dst := some 113, op := Go.Op.call { callee := Go.Callee.value (Go.Operand.func 19), args := #[Go.Operand.tmp 111, Go.Operand.tmp 112], argTypes := #[27, 3] }, type := 27, pos := "law.go:41", after := #[{ on := 48, ground := Go.Ground.data }, { on := 49, ground := Go.Ground.data }, { on := 47, ground := Go.Ground.chain }, { on := 47, ground := Go.Ground.guard }], guard := some (47, true) }) rfl (fun K hK => ?_) AllReadyH.nil
                     refine goes_ (N := some 113) («as» := #[.tmp 111, .tmp 112]) Tryd.func19 (by kernel_rfl) rfl #[.agg (agC .u64 65 ff), .int .i64 a1] (by kernel_rfl) rfl rfl (by kernel_rfl) ?_
                     with_reducible refine (CO.out _).mono ?_
                     rintro e X ⟨rfl, hb⟩
                     refine ⟨_, rfl, ?_⟩
                     replace hX := Aside0.mk (below_step hX.out hb)
                     (try replace hC1 := Aside0.mk (Kd.C_below hC1.out hb))
                     (try replace hR1 := Aside0.mk (Kd.R_below hR1.out hb))
                     clear hb
                     refine hK.out _ _ ?_ (fun hHeld => ?_)
                     · exact hSl.out _ hX.out
                     clear hK K
                     try simp only [Act.put, List.setIfInBounds_toArray, List.set_cons_zero, List.set_cons_succ]
                     as_aux_lemma =>
                      refine wpAnyH_ready (rs := [52]) (by kernel_rfl) (by simp) ?_
                      refine AllReadyH.cons (o := { dst := some 115, op := Go.Op.call { callee := Go.Callee.value (Go.Operand.func 18), args := #[Go.Operand.tmp 113, Go.Operand.tmp 114], argTypes := #[27, 3] }, type := 27, pos := "law.go:41", after := #[{ on := 50, ground := Go.Ground.data }, { on := 51, ground := Go.Ground.data }, { on := 50, ground := Go.Ground.chain }, { on := 47, ground := Go.Ground.guard }], guard := some (47, true) }) rfl (fun K hK => ?_) AllReadyH.nil
                      refine goes_ (N := some 115) («as» := #[.tmp 113, .tmp 114]) Tryd.func18 (by kernel_rfl) rfl #[.agg (agC .u64 65 fWo), .int .i64 a1] (by kernel_rfl) rfl rfl (by kernel_rfl) ?_
                      with_reducible refine (CWW.out _).mono ?_
                      rintro e X ⟨rfl, hb⟩
                      refine ⟨_, rfl, ?_⟩
                      replace hX := Aside0.mk (below_step hX.out hb)
                      (try replace hC1 := Aside0.mk (Kd.C_below hC1.out hb))
                      (try replace hR1 := Aside0.mk (Kd.R_below hR1.out hb))
                      clear hb
                      refine hK.out _ _ ?_ (fun hHeld => ?_)
                      · exact hSl.out _ hX.out
                      clear hK K
                      try simp only [Act.put, List.setIfInBounds_toArray, List.set_cons_zero, List.set_cons_succ]
                      refine wpAnyH_ready (rs := [54]) (by kernel_rfl) (by simp) ?_
                      refine AllReadyH.cons (o := { dst := some 117, op := Go.Op.call { callee := Go.Callee.value (Go.Operand.func 17), args := #[Go.Operand.tmp 115, Go.Operand.tmp 116], argTypes := #[27, 3] }, type := 4, pos := "law.go:41", after := #[{ on := 52, ground := Go.Ground.data }, { on := 53, ground := Go.Ground.data }, { on := 52, ground := Go.Ground.chain }, { on := 47, ground := Go.Ground.guard }], guard := some (47, true) }) rfl (fun K hK => ?_) AllReadyH.nil
                      refine goes_ (N := some 117) («as» := #[.tmp 115, .tmp 116]) Tryd.func17 (by kernel_rfl) rfl #[.agg (agC .u64 65 fWW), .int .i64 a1] (by kernel_rfl) rfl rfl (by kernel_rfl) ?_
                      with_reducible refine (CHWW.out _).mono ?_
                      rintro e X ⟨rfl, hb⟩
                      refine ⟨_, rfl, ?_⟩
                      replace hX := Aside0.mk (below_step hX.out hb)
                      (try replace hC1 := Aside0.mk (Kd.C_below hC1.out hb))
                      (try replace hR1 := Aside0.mk (Kd.R_below hR1.out hb))
                      clear hb
                      refine hK.out _ _ ?_ (fun hHeld => ?_)
                      · exact hSl.out _ hX.out
                      clear hK K
                      try simp only [Act.put, List.setIfInBounds_toArray, List.set_cons_zero, List.set_cons_succ]
                      as_aux_lemma =>
                       refine wpAnyH_take (i := 56) (oi := { dst := some 119, op := Go.Op.binOp Go.BinOp.eql 4 (Go.Operand.tmp 117) (Go.Operand.tmp 118) 4, type := 4, pos := "law.go:41", after := #[{ on := 54, ground := Go.Ground.data }, { on := 55, ground := Go.Ground.data }, { on := 47, ground := Go.Ground.guard }], guard := some (47, true) }) (v := ?_) rfl (by kernel_rfl) (by kernel_rfl) (by kernel_rfl) (fun _ _ _ h => h) (Or.inl ⟨by kernel_rfl, ?_⟩) (by assumption) ?_
                       rotate_left
                       · intro W hSw; go_simp; first | done | with_reducible rfl
                       try simp only [Act.put, List.setIfInBounds_toArray, List.set_cons_zero, List.set_cons_succ]
                       refine wpAnyH_take (i := 57) (oi := { dst := some 120, op := Go.Op.pick (Go.Operand.tmp 110) (Go.Operand.tmp 119) (Go.Operand.const (Go.Value.bool false)), type := 4, pos := "law.go:41", after := #[{ on := 47, ground := Go.Ground.data }, { on := 56, ground := Go.Ground.data }], guard := none }) (v := ?_) rfl (by kernel_rfl) (by kernel_rfl) (by kernel_rfl) (fun _ _ _ h => h) (Or.inl ⟨by kernel_rfl, ?_⟩) (by assumption) ?_
                       rotate_left
                       · intro W hSw; go_simp; first | done | with_reducible rfl
                       try simp only [Act.put, List.setIfInBounds_toArray, List.set_cons_zero, List.set_cons_succ]
                       refine wpAnyH_take (i := 58) (oi := { dst := some 121, op := Go.Op.move (Go.Operand.tmp 120), type := 4, pos := "law.go:41", after := #[{ on := 57, ground := Go.Ground.data }, { on := 54, ground := Go.Ground.chain }], guard := none }) (v := ?_) rfl (by kernel_rfl) (by kernel_rfl) (by kernel_rfl) (fun _ _ _ h => h) (Or.inl ⟨by kernel_rfl, ?_⟩) (by assumption) ?_
                       rotate_left
                       · intro W hSw; go_simp; first | done | with_reducible rfl
                       try simp only [Act.put, List.setIfInBounds_toArray, List.set_cons_zero, List.set_cons_succ]
                       refine wpAnyH_take (i := 59) (oi := { dst := some 122, op := Go.Op.move (Go.Operand.tmp 12), type := 4, pos := "law.go:41", after := #[{ on := 58, ground := Go.Ground.guard }], guard := some (58, true) }) (v := ?_) rfl (by kernel_rfl) (by kernel_rfl) (by kernel_rfl) (fun _ _ _ h => h) (Or.inl ⟨by kernel_rfl, ?_⟩) (by assumption) ?_
                       rotate_left
                       · intro W hSw; go_simp; first | done | with_reducible rfl
                       try simp only [Act.put, List.setIfInBounds_toArray, List.set_cons_zero, List.set_cons_succ]
                       refine wpAnyH_take (i := 60) (oi := { dst := some 123, op := Go.Op.move (Go.Operand.tmp 122), type := 4, pos := "law.go:41", after := #[{ on := 59, ground := Go.Ground.data }, { on := 58, ground := Go.Ground.chain }, { on := 58, ground := Go.Ground.guard }], guard := some (58, true) }) (v := ?_) rfl (by kernel_rfl) (by kernel_rfl) (by kernel_rfl) (fun _ _ _ h => h) (Or.inl ⟨by kernel_rfl, ?_⟩) (by assumption) ?_
                       rotate_left
                       · intro W hSw; go_simp; first | done | with_reducible rfl
                       try simp only [Act.put, List.setIfInBounds_toArray, List.set_cons_zero, List.set_cons_succ]
                       refine wpAnyH_take (i := 61) (oi := { dst := some 124, op := Go.Op.load 27 (Go.Operand.tmp 7), type := 27, pos := "law.go:41", after := #[{ on := 60, ground := Go.Ground.guard }], guard := some (60, false) }) (v := undef) rfl (by kernel_rfl) (by kernel_rfl) (by kernel_rfl) (fun _ _ _ h => h) (Or.inr ⟨by kernel_rfl, rfl⟩) (by assumption) ?_
                       try simp only [Act.put, List.setIfInBounds_toArray, List.set_cons_zero, List.set_cons_succ]
                       refine wpAnyH_take (i := 62) (oi := { dst := some 125, op := Go.Op.move (Go.Operand.tmp 1), type := 3, pos := "law.go:41", after := #[{ on := 60, ground := Go.Ground.guard }], guard := some (60, false) }) (v := undef) rfl (by kernel_rfl) (by kernel_rfl) (by kernel_rfl) (fun _ _ _ h => h) (Or.inr ⟨by kernel_rfl, rfl⟩) (by assumption) ?_
                       try simp only [Act.put, List.setIfInBounds_toArray, List.set_cons_zero, List.set_cons_succ]
                       refine wpAnyH_take (i := 63) (oi := { dst := some 126, op := Go.Op.call { callee := Go.Callee.value (Go.Operand.func 19), args := #[Go.Operand.tmp 124, Go.Operand.tmp 125], argTypes := #[27, 3] }, type := 27, pos := "law.go:41", after := #[{ on := 61, ground := Go.Ground.data }, { on := 62, ground := Go.Ground.data }, { on := 60, ground := Go.Ground.chain }, { on := 60, ground := Go.Ground.guard }], guard := some (60, false) }) (v := undef) rfl (by kernel_rfl) (by kernel_rfl) (by kernel_rfl) (fun _ _ _ h => h) (Or.inr ⟨by kernel_rfl, rfl⟩) (by assumption) ?_
                       try simp only [Act.put, List.setIfInBounds_toArray, List.set_cons_zero, List.set_cons_succ]
                       refine wpAnyH_take (i := 64) (oi := { dst := some 127, op := Go.Op.load 27 (Go.Operand.tmp 7), type := 27, pos := "law.go:41", after := #[{ on := 60, ground := Go.Ground.guard }], guard := some (60, false) }) (v := undef) rfl (by kernel_rfl) (by kernel_rfl) (by kernel_rfl) (fun _ _ _ h => h) (Or.inr ⟨by kernel_rfl, rfl⟩) (by assumption) ?_
                       try simp only [Act.put, List.setIfInBounds_toArray, List.set_cons_zero, List.set_cons_succ]
                       refine wpAnyH_take (i := 65) (oi := { dst := some 128, op := Go.Op.binOp Go.BinOp.eql 27 (Go.Operand.tmp 126) (Go.Operand.tmp 127) 27, type := 4, pos := "law.go:41", after := #[{ on := 63, ground := Go.Ground.data }, { on := 64, ground := Go.Ground.data }, { on := 60, ground := Go.Ground.guard }], guard := some (60, false) }) (v := undef) rfl (by kernel_rfl) (by kernel_rfl) (by kernel_rfl) (fun _ _ _ h => h) (Or.inr ⟨by kernel_rfl, rfl⟩) (by assumption) ?_
                       try simp only [Act.put, List.setIfInBounds_toArray, List.set_cons_zero, List.set_cons_succ]
                       refine wpAnyH_take (i := 66) (oi := { dst := some 129, op := Go.Op.pick (Go.Operand.tmp 123) (Go.Operand.const (Go.Value.bool true)) (Go.Operand.tmp 128), type := 4, pos := "law.go:41", after := #[{ on := 60, ground := Go.Ground.data }, { on := 65, ground := Go.Ground.data }, { on := 58, ground := Go.Ground.guard }], guard := some (58, true) }) (v := ?_) rfl (by kernel_rfl) (by kernel_rfl) (by kernel_rfl) (fun _ _ _ h => h) (Or.inl ⟨by kernel_rfl, ?_⟩) (by assumption) ?_
                       rotate_left
                       · intro W hSw; go_simp; first | done | with_reducible rfl
                       try simp only [Act.put, List.setIfInBounds_toArray, List.set_cons_zero, List.set_cons_succ]
                       refine wpAnyH_take (i := 67) (oi := { dst := some 130, op := Go.Op.pick (Go.Operand.tmp 121) (Go.Operand.tmp 129) (Go.Operand.const (Go.Value.bool false)), type := 4, pos := "law.go:41", after := #[{ on := 58, ground := Go.Ground.data }, { on := 66, ground := Go.Ground.data }], guard := none }) (v := ?_) rfl (by kernel_rfl) (by kernel_rfl) (by kernel_rfl) (fun _ _ _ h => h) (Or.inl ⟨by kernel_rfl, ?_⟩) (by assumption) ?_
                       rotate_left
                       · intro W hSw; go_simp; first | done | with_reducible rfl
                       try simp only [Act.put, List.setIfInBounds_toArray, List.set_cons_zero, List.set_cons_succ]
                       refine wpAnyH_ready (rs := [68]) (by kernel_rfl) (by simp) ?_
                       refine AllReadyH.cons (o := { dst := none, op := Go.Op.store 4 (Go.Operand.tmp 6) (Go.Operand.tmp 130), type := 0, pos := "law.go:41", after := ([{ on := 67, ground := Go.Ground.data }, { on := 63, ground := Go.Ground.chain }, { on := 0, ground := Go.Ground.phase }, { on := 1, ground := Go.Ground.phase }, { on := 2, ground := Go.Ground.phase }, { on := 3, ground := Go.Ground.phase }, { on := 4, ground := Go.Ground.phase }, { on := 5, ground := Go.Ground.phase }, { on := 6, ground := Go.Ground.phase }, { on := 7, ground := Go.Ground.phase }, { on := 8, ground := Go.Ground.phase }, { on := 9, ground := Go.Ground.phase }, { on := 10, ground := Go.Ground.phase }, { on := 11, ground := Go.Ground.phase }, { on := 12, ground := Go.Ground.phase }, { on := 13, ground := Go.Ground.phase }, { on := 14, ground := Go.Ground.phase }, { on := 15, ground := Go.Ground.phase }, { on := 16, ground := Go.Ground.phase }, { on := 17, ground := Go.Ground.phase }, { on := 18, ground := Go.Ground.phase }, { on := 19, ground := Go.Ground.phase }, { on := 20, ground := Go.Ground.phase }, { on := 21, ground := Go.Ground.phase }, { on := 22, ground := Go.Ground.phase }, { on := 23, ground := Go.Ground.phase }, { on := 24, ground := Go.Ground.phase }, { on := 25, ground := Go.Ground.phase }, { on := 26, ground := Go.Ground.phase }, { on := 27, ground := Go.Ground.phase }, { on := 28, ground := Go.Ground.phase }, { on := 29, ground := Go.Ground.phase }, { on := 30, ground := Go.Ground.phase }, { on := 31, ground := Go.Ground.phase }, { on := 32, ground := Go.Ground.phase }].append [{ on := 33, ground := Go.Ground.phase }, { on := 34, ground := Go.Ground.phase }, { on := 35, ground := Go.Ground.phase }, { on := 36, ground := Go.Ground.phase }, { on := 37, ground := Go.Ground.phase }, { on := 38, ground := Go.Ground.phase }, { on := 39, ground := Go.Ground.phase }, { on := 40, ground := Go.Ground.phase }, { on := 41, ground := Go.Ground.phase }, { on := 42, ground := Go.Ground.phase }, { on := 43, ground := Go.Ground.phase }, { on := 44, ground := Go.Ground.phase }, { on := 45, ground := Go.Ground.phase }, { on := 46, ground := Go.Ground.phase }, { on := 47, ground := Go.Ground.phase }, { on := 48, ground := Go.Ground.phase }, { on := 49, ground := Go.Ground.phase }, { on := 50, ground := Go.Ground.phase }, { on := 51, ground := Go.Ground.phase }, { on := 52, ground := Go.Ground.phase }, { on := 53, ground := Go.Ground.phase }, { on := 54, ground := Go.Ground.phase }, { on := 55, ground := Go.Ground.phase }, { on := 56, ground := Go.Ground.phase }, { on := 57, ground := Go.Ground.phase }, { on := 58, ground := Go.Ground.phase }, { on := 59, ground := Go.Ground.phase }, { on := 60, ground := Go.Ground.phase }, { on := 61, ground := Go.Ground.phase }, { on := 62, ground := Go.Ground.phase }, { on := 63, ground := Go.Ground.phase }, { on := 64, ground := Go.Ground.phase }, { on := 65, ground := Go.Ground.phase }, { on := 66, ground := Go.Ground.phase }, { on := 67, ground := Go.Ground.phase }]).toArray, guard := none }) rfl (fun K hK => ?_) AllReadyH.nil
                       have hc6 := (hS6.out _ hX.out).1
                       have hz6 := (hS6.out _ hX.out).2
                       go_simp
                       refine hK.out _ _ ?_ (fun hHeld => ?_)
                       · exact hSr.out _ hX.out
                       clear hK K
                       try simp only [Act.put, List.setIfInBounds_toArray, List.set_cons_zero, List.set_cons_succ]
                       refine wpAnyH_done (by kernel_rfl) ?_ _
                       try simp only [Act.put, List.setIfInBounds_toArray, List.set_cons_zero, List.set_cons_succ, List.getElem_toArray, List.getElem_cons_zero, List.getElem_cons_succ]
                       refine NoPanic.normal ?_
                       (try dsimp only [Exit.then])
                       refine hKz.out _ _ ?_
                       go_wp2_with (fail)
                       have hKX := (Below.heap_setCell _ ⟨w.heap.size + 1, 0, none⟩ (Value.bool true) D (by show D ≠ w.heap.size + 1; omega)).trans (blk_below hKe.out hX.out)
                       refine ⟨by simp, .inl ⟨_, _, rfl, run_takeDeferred hKX, ?_⟩⟩
                       refine ⟨_, results_one rfl _ _ ⟨w.heap.size + 1, 0, none⟩ (.bool true) Tryd.underlying4 rfl (cell_kept (World.cell?_setCell_same' _ _ _ (by rw [hc6]; rfl)) (grownBy_putObj' _ D (.deferred none)) (fun r e => by cases e; exact ⟨_, hKX, rfl⟩)), rfl, ?_⟩
                       exact (below_set (below_step HBe.out hX.out) (by omega)).trans (belowK_b (w := w) (Nat.le_refl _) _ D _ _ (by omega) hKX rfl rfl)
  clear hKK
  have hseq : SeqStopsK Fence.wide (3 - 1) Tryd.prog 43 #[.pointer (some ⟨w4.heap.size + 1 + 1, 0, none⟩)] (fun x : Int => #[Value.int .i64 x]) (Below (w4.heap.size + 1)) (fun ys => ys = xs) (fun pre => pre <+: xs) xs.length (((w4.alloc (.cells #[.slice As xs.length cs] 22 (0, 0))).alloc (.cells #[.int .i64 0] 3 (0, 0))).alloc (.cells (agC .u64 65 (ofF l0)) 27 (0, 0))) := by
    rw [← hxs]
    rw [← hxs] at bM hTb
    exact all_stops (3 - 1) (by omega) (w4.heap.size + 1 + 1) (w4.heap.size + 1) (ofF l0) hUf _ (by omega) bM hTb
  replace hfin := Aside0.mk hfin
  refine (wpIn_wide (n := 3)).1 ?_
  refine wpIn_rangeFunc_ownG rfl (by omega) (gf := 43) (lb := #[.pointer (some ⟨w4.heap.size + 1 + 1, 0, none⟩)]) rfl trivial (enters_of Tryd.func43 (by kernel_rfl) rfl)
    hseq belowK_t (belowK_b (by first | (simp; done) | (simp; omega) | omega)) (Below.refl _ _) (fun _ => rfl)
    (fun pre W => Boxed W (w4.heap.size + 1) 3 (.int .i64 pre.length) ∧ Below (w4.heap.size + 1) (w4.alloc (.cells #[.slice As xs.length cs] 22 (0, 0))) W)
    (fun c pre W => (c = .ret ∧ ¬ pre <+: xs) ∨ (c = .exit 0 ∧ Boxed W (w4.heap.size + 1) 3 (.int .i64 a2) ∧ Below (w4.heap.size + 1) (w4.alloc (.cells #[.slice As xs.length cs] 22 (0, 0))) W))
    (OwnFrom.and (Own.from (boxed_own (w4.heap.size + 1) 3 (fun pre : List Int => .int .i64 pre.length)) _) (ownFrom_below (by simp) (by first | (simp; done) | (simp; omega) | omega)))
    (fun c s X Y row hs hg hr => hs.imp id fun h => ⟨h.1, (Own.from (boxed_own (w4.heap.size + 1) 3 (fun _ : List Int => .int .i64 a2)) _) s X Y row h.2.1 hg hr, (ownFrom_below (β := List Int) (by simp) (by first | (simp; done) | (simp; omega) | omega)) s X Y row h.2.2 hg hr⟩)
    ⟨bN.alloc _, hBb⟩
    (fun x => { tmps := #[.slice A0 l0.length c0, .int .i64 a1, .int .i64 a2, undef, undef, .pointer (some ⟨w.heap.size, 0, none⟩), .pointer (some ⟨w.heap.size + 1, 0, none⟩), .pointer (some ⟨g7, 0, none⟩), .pointer (some ⟨w4.heap.size, 0, none⟩), .pointer (some ⟨w4.heap.size + 1, 0, none⟩), .int .i64 x, undef, undef, .bool true, .bool false, .slice A0 l0.length c0, .int .i64 l0.length, .bool false, .slice A0 l0.length c0, .agg (agC .u64 65 (ofF l0)), .slice A0 l0.length c0, .slice As xs.length cs, .agg (agC .u64 65 (ofF l0)), .func (.func 43) #[] #[.pointer (some ⟨w4.heap.size + 1 + 1, 0, none⟩)], .int .i64 x, undef, undef, undef, undef, undef, undef, undef, undef, undef, undef, undef, undef, undef, undef, undef, undef, undef, undef, undef, undef, undef, undef, undef, undef, undef, undef, undef, undef, undef, undef, undef, undef, undef, undef, undef, undef, undef, undef, undef, undef, undef, undef, undef, undef, undef, undef, undef, undef, undef, undef, undef, undef, undef, undef, undef, undef, undef, undef, undef, undef, undef, undef, undef, undef, undef, undef, undef, undef, undef, undef, undef, undef, undef, undef, undef, undef, undef, undef, undef, undef, undef, undef, undef, undef, undef, undef, undef, undef, undef, undef, undef, undef, undef, undef, undef, undef, undef, undef, undef, undef, undef, undef, undef, undef, undef, undef], defers := [] }) ?assign ?body ?done ?stop
  case assign =>
    intro l x W K hK
    gi_wp2
    exact hK
  case body =>
    rintro l pre x W ⟨hbox, hB⟩ hlt
    have hc9 := hbox.cell
    have hf9 := hbox.frozen
    have hB4 : Below w4.heap.size w4 W := (below_alloc (Below.refl _ _) _).trans (hB.mono (Nat.le_succ _))
    have hc5 : W.cell? ⟨w.heap.size, 0, none⟩ = some (.int .i64 a2) := (blk_cell (blk_below K5.out hB4) 0).trans rfl
    have K6W := blk_below K6.out hB4
    have hc6 : W.cell? ⟨w.heap.size + 1, 0, none⟩ = some (.bool false) := (blk_cell K6W 0).trans rfl
    have hz6 := blk_frozen K6W 0
    have hS8 : (w4.alloc (.cells #[.slice As xs.length cs] 22 (0, 0))).heap[w4.heap.size]? = some (.cells #[.slice As xs.length cs] 22 (0, 0)) := blk_new w4 _
    have hc8 : W.cell? ⟨w4.heap.size, 0, none⟩ = some (.slice As xs.length cs) := (blk_cell ((hB.block w4.heap.size (Nat.lt_succ_self _)).trans hS8) 0).trans rfl
    have hCW := Kd.C_below hCs hB4
    have hn0 : (0 : Int) ≤ (pre.length : Int) := by omega
    have hn1 : (pre.length : Int) < (xs.length : Int) := by omega
    have hn2 : (pre.length : Int) ≤ 4160 := by omega
    obtain ⟨ad, e1, hx⟩ := Kd.at_int hCW (pre.length : Int) hn0 hn1
    cases e1
    simp only [Int.toNat_natCast] at hx
    have hg1 : decide ((pre.length : Int) ≥ (xs.length : Int)) = false := decide_eq_false (by omega)
    obtain ⟨y, hy⟩ : ∃ y, rd xs pre.length = y := ⟨_, rfl⟩
    rw [hy] at hx
    replace hy := Aside0.mk hy
    obtain ⟨m, hm⟩ : ∃ m, pre.length = m := ⟨_, rfl⟩
    rw [hm] at hc9 hn0 hn1 hn2 hx hg1 hbox
    replace hm := Aside0.mk hm
    replace hbox := Aside0.mk hbox
    clear K5 K6 HB M7' hB4 K6W hS8 hCW hfin hal hlt hseq
    replace hB := Aside0.mk hB
    by_cases e1 : (m : Int) = a2
    · have d1 : ((m : Int) == a2) = true := by simp [e1]
      replace e1 := Aside0.mk e1
      gi_wp2
      exact ⟨KeepsFrom.refl _ _, .inr ⟨rfl, by rw [← e1.out]; exact hbox.out, hB.out⟩⟩
    have d1 : ((m : Int) == a2) = false := by simp [e1]
    by_cases e2 : x = y
    · have d2 : (x != y) = false := by simp [e2]
      replace e2 := Aside0.mk e2
      gi_wp2
      have hb2 := blk_set hbox.out 0 (.int .i64 ((m : Int) + 1))
      exact ⟨(KeepsOthers.setCell _ _ _).from _, (Below.refl (w4.heap.size + 1) W).setCell (p := ⟨w4.heap.size + 1, 0, none⟩) (Nat.le_refl _) _, by rw [List.length_append, hm.out]; exact hb2, hB.out.setCell (p := ⟨w4.heap.size + 1, 0, none⟩) (Nat.le_refl _) _⟩
    have d2 : (x != y) = true := by simp [e2]
    gi_wp2
    refine ⟨(KeepsOthers.setCell _ _ _).from _, .inl ⟨rfl, fun hp => e2 ?_⟩⟩
    obtain ⟨r, hr⟩ := hp
    rw [← hy.out, ← hr]
    unfold rd
    simp [List.getD_eq_getElem?_getD]
  case done =>
    rintro D ys W hD rfl ⟨hbox, hB⟩ hK
    exact hfin.out D _ W hbox (.inl rfl) hB (by simp at hD; omega) hK
  case stop =>
    rintro D c pre W hD hSp (⟨rfl, hn⟩ | ⟨rfl, hbox, hB⟩) hK
    · exact absurd hSp hn
    · gi_wp2
      exact hfin.out D _ W hbox (.inr rfl) hB (by simp at hD; omega) hK
end Go.Proofs.YtcnlmpjoghogbaaDoor.Ag
namespace Go.Proofs.YtcnlmpjoghogbaaDoor.PAll
open Go.RowKit Go.Proofs.YtcnlmpjoghogbaaDoor.Xw Go.Proofs.YtcnlmpjoghogbaaDoorW.PrintWords Go.Proofs.YtcnlmpjoghogbaaDoorW.PrintLast Go.Proofs.YtcnlmpjoghogbaaDoorW.PrintMore
theorem spencelaw18_BitmapTells.calls (A0 : Option Addr) (c0 : Nat) (l0 : List Int) (a1 a2 : Int) (r : Bool) (w : World) (hr0 : Kd.C (Kd.int .i64) w A0 l0.length l0) (hc0 : l0.length ≤ c0) (hT : Ag.TabW w) (h : spencelaw18_BitmapTells.f l0 a1 a2 = some r) :
    Calls Tryd.prog 3 #[.slice A0 l0.length c0, .int .i64 a1, .int .i64 a2] w fun e w' => e = .returned (.bool r) ∧ Below w.heap.size w w' := by
  obtain rfl := Option.some.inj h
  exact Ag.tells_calls A0 c0 l0 a1 a2 w hr0 hc0 hT
end Go.Proofs.YtcnlmpjoghogbaaDoor.PAll
namespace Go.Proofs.YtcnlmpjoghogbaaDoor.Pure
open Go.Proofs.YtcnlmpjoghogbaaDoor.PAll
theorem BitmapTells (l0 : List Int) (a1 a2 : Int) (_ : l0.length * 8 ≤ 140737488351232) (_ : ∀ x ∈ l0, (Lit.int .i64 x).wf = true) (_ : (Lit.int .i64 a1).wf = true) (_ : (Lit.int .i64 a2).wf = true) : spencelaw18_BitmapTells.f l0 a1 a2 = some true := rfl
end Go.Proofs.YtcnlmpjoghogbaaDoor.Pure
namespace Go.Proofs.YtcnlmpjoghogbaaDoor.bitmapTells
open Go.ChangeShapes Go.WideShapes Go.ChangeAt Go.RowKit Go.Proofs.YtcnlmpjoghogbaaDoor.Rd Go.Proofs.YtcnlmpjoghogbaaDoor.PAll Go.Proofs.YtcnlmpjoghogbaaDoorW.PrintWords
open Go.ChangeMaps (open_string shut_string)
set_option linter.unusedVariables false
theorem own : ownKnob Tryd.prog.godebug = none := by kernel_rfl
theorem laidOut : laidOutB Tryd.prog = true := by kernel_rfl
set_option maxRecDepth 100000 in
set_option maxHeartbeats 4000000 in
theorem lifted (os : Os) (started : os.Started) (H : Type) (enc : TypeId × Value → H) :
    ReturnsInHanded {} Tryd.checked os 3 .any (fun w args => (Rows.bitmapTellsSpec.pre enc Tryd.prog Tryd.f3 Rows.bitmapTellsRow.domain false w args ∧ laidMetH Tryd.prog Rows.bitmapTellsRow.laid w) ∧ sizedMet enc Tryd.prog Tryd.f3 (OpenSpec.ofChange Rows.bitmapTellsSpec) false w args) (Rows.bitmapTellsSpec.post enc Tryd.prog Tryd.f3 false true false false) := by
  refine returnsInHanded_of_change_and (C := Tryd.checked) (X := (fun w _ => laidMetH Tryd.prog Rows.bitmapTellsRow.laid w)) (fun _ _ _ hh h => h.of_heap hh) own started (by kernel_rfl) Tryd.func3
    (ChangeSpec.witness_shaped (enc := enc) (C := Tryd.checked) (os := os) (X := (fun w _ => laidMetH Tryd.prog Rows.bitmapTellsRow.laid w)) false (World.laidAll Tryd.prog os Rows.bitmapTellsRow.laid) #[.slice none 0 0, .int .i64 0, .int .i64 0] 8 (World.laidAll_os _ _ _)
      (World.shaped_of_ZipB (by kernel_rfl) (by kernel_rfl)) (by kernel_rfl) (by kernel_rfl) (by kernel_rfl)
      (by rw [MakeChecks.laidMetH_plain _ _ _ (by kernel_rfl)]; exact laidMet_laidAll _ (by kernel_rfl) (by kernel_rfl))) ?_
  intro W base args ds gs before hval0 hW hcnd hsz0 hL_ _
  rw [MakeChecks.laidMetH_plain _ _ _ (by kernel_rfl)] at hL_
  have hT := Ag.tab_of_reads (Lib.laidMet.reads hL_ (.head _))
  have hsz : (DataW.weightsEach Tryd.prog (Tryd.f3.params.toList ++ Rows.bitmapTellsSpec.plain.varTypes Tryd.prog) (ds ++ gs)).all (· ≤ reachBytes) = true := hsz0
  have hval : ∀ (j : Nat) t v, Tryd.f3.params[j]? = some t → args[j]? = some v → Value.okWide Tryd.prog W .any base t v := hval0
  have hW' := hW
  obtain ⟨p, q, hA0, hV, rfl, hfz, hnd⟩ := hW
  have hA : DataW.TrodAll enc Tryd.prog W 0 (fun _ => true) true Tryd.f3.params.toList args.toList ds p := hA0
  rw [Tryd.params3] at hA hval hsz
  obtain ⟨v0, vs0, d0, ds0, p0, q0, hargs, rfl, rfl, h0, r0⟩ := trodAll_cons hA
  obtain ⟨v1, vs1, d1, ds1, p1, q1, rfl, rfl, rfl, h1, r1⟩ := trodAll_cons r0
  obtain ⟨v2, vs2, d2, ds2, p2, q2, rfl, rfl, rfl, h2, r2⟩ := trodAll_cons r1
  obtain ⟨rfl, rfl, rfl⟩ := trodAll_nil r2
  obtain rfl : args = #[v0, v1, v2] := by cases args; simp_all
  obtain ⟨rfl, rfl⟩ := trodVars_none hV
  have k0 := h0
  have lt0 : ∀ x ∈ p0, x.block < W.heap.size := by obtain ⟨m, hm⟩ := k0; exact DataW.trod_lt m _ _ _ hm
  have k1 := h1
  have lt1 : ∀ x ∈ p1, x.block < W.heap.size := by obtain ⟨m, hm⟩ := k1; exact DataW.trod_lt m _ _ _ hm
  have k2 := h2
  have lt2 : ∀ x ∈ p2, x.block < W.heap.size := by obtain ⟨m, hm⟩ := k2; exact DataW.trod_lt m _ _ _ hm
  obtain ⟨A0, c0, l0, rfl, hc0, hC0, hok0, hb0⟩ := Rd.open_row Tryd.underlying22 (opens_int Tryd.underlying3) (by kernel_rfl) (hval 0 22 v0 rfl rfl) h0 hsz (j := 0) rfl rfl (B := 8) (by kernel_rfl)
  obtain ⟨a1, rfl, rfl, rfl, w1⟩ := open_int Tryd.underlying3 (hval 1 3 v1 rfl rfl) h1
  obtain ⟨a2, rfl, rfl, rfl, w2⟩ := open_int Tryd.underlying3 (hval 2 3 v2 rfl rfl) h2
  clear hA0 hval0 hsz0 hsz
  have hk := Pure.BitmapTells l0 a1 a2 hb0 hok0 w1 w2
  refine (PAll.spencelaw18_BitmapTells.calls _ _ l0 a1 a2 true W hC0 hc0 hT hk).mono fun e W' ⟨he, hd⟩ => ?_
  have bel : Below W.heap.size W W' := hd
  subst he
  exact ⟨_, rfl, _, _, _, [], _, [], hW', trodAll_mk1 (shut_bool Tryd.underlying4 _), (trodAll_cons_mk (Below.trod laidOut (by kernel_rfl) (of_decide_eq_true (by kernel_rfl)) k0 bel lt0) (trodAll_cons_mk (shut_int Tryd.underlying3 w1) (trodAll_cons_mk (shut_int Tryd.underlying3 w2) trodAll_mk0))), rfl, bel.frame _, fun h => by cases h⟩
theorem over : Rows.bitmapTellsRow.holds Tryd.pinned (OpenSpec.ofChange Rows.bitmapTellsSpec) :=
  OpenClaim.holds_of_wide 3 Tryd.f3 rfl rfl rfl rfl rfl rfl rfl ⟨rfl, rfl, rfl, rfl, rfl⟩ rfl rfl rfl rfl rfl (by kernel_rfl) Tryd.func3 (by kernel_rfl)
    (of_decide_eq_true (by kernel_rfl)) (by unfold Func.isWrapper; first | (rw [if_pos (by decide +kernel)]; kernel_rfl) | (rw [if_neg (by decide +kernel)]; exact ⟨rfl, rfl⟩))
    (fun os started H enc _ => lifted os started H enc)
end Go.Proofs.YtcnlmpjoghogbaaDoor.bitmapTells
namespace Go.Proofs.YtcnlmpjoghogbaaDoor
theorem bitmapTells_row : Rows.BitmapTellsSaid := bitmapTells.over
theorem bitmapTellsCard_holds : Rows.BitmapTellsCardSaid :=
  Claim7.holds_tied_plain_at .later [] [.data] true (true, "9efb238688faacc68744475846aa2837f64feee42efab19a35a16943659a881b") false bitmapTells_row (fun _ h => by cases h) (by kernel_rfl) (fun _ h => by cases h) bitmapTells_row_tie rfl ⟨rfl, rfl⟩ (by kernel_rfl) rfl
    (fun f fn hf hfn => by
      obtain rfl : f = 3 := Option.some.inj ((show Tryd.prog.funcNamed "spence/spencelaw18.BitmapTells" = some 3 by kernel_rfl).symm.trans hf) |>.symm
      obtain rfl : fn = Tryd.f3 := (Option.some.inj (Tryd.func3.symm.trans hfn)).symm
      exact ⟨by kernel_rfl, fun j t ht => by
        rw [Tryd.params3] at ht
        have hm : t ∈ [22, 3, 3] := by simpa using Array.mem_of_getElem? ht
        have hall : ([22, 3, 3].all fun u => !Tryd.prog.wantsStandIn u) = true := by kernel_rfl
        exact (show Tryd.prog.wantsStandIn t = false by simpa using List.all_eq_true.1 hall t hm)⟩)
    (by kernel_rfl)
#print axioms bitmapTellsCard_holds
end Go.Proofs.YtcnlmpjoghogbaaDoor
