/- The law SpecBack: for every input the call returns true, and each argument reads behind the call as it read before. No condition. (The row, and the plain law ahead of it.) -/
import Derived.Test.YtndghocppadimaaDoorKSpecBack1
import Derived.Test.YtndghocppadimaaDoorKSpecBack0
import Derived.OpenShut
import Derived.Laws.BytesArg
import Derived.Laws.Strings
import Derived.Lib.Bytealg
import Derived.Test.YtndghocppadimaaDoorRows
import Derived.Test.YtndghocppadimaaDoorCards
import Derived.Test.YtndghocppadimaaDoorTie
import Derived.LaidMore
import Derived.Lay
import Derived.SevenTiedAt
import Derived.Stop.Joined
import Derived.WalkKit
import Derived.ProofKit
import Derived.ShutString
import Derived.ChangeOld
import Derived.Below
import Derived.SizedLaws
namespace Go.Proofs.YtndghocppadimaaDoor.PAll
open Go.RowKit Go.Proofs.YtndghocppadimaaDoor.Xw Go.Proofs.YtndghocppadimaaDoorW.PrintWords Go.Proofs.YtndghocppadimaaDoorW.PrintLast Go.Proofs.YtndghocppadimaaDoorW.PrintMore
attribute [local go_sem] max2_int min2_int max_two min_two max_three min_three max_four min_four   -- for this text's walks alone
set_option linter.unusedVariables false
set_option linter.unusedSimpArgs false
mutual
def spenceref01_Pieces.l0 : Nat → ByteArray → Bool → List ByteArray → Bool → Int → Option (List ByteArray)
  | 0, _, _, _, _, _ => none
  | k + 1, x0, x1, x5, x6, x7 => if x7 < (x0.size : Int) then (if 0 ≤ x7 then (if (bt x0 x7) = 34 then (spenceref01_Pieces.j1 k x0 x1 x5 x6 x7 x1) else (spenceref01_Pieces.j1 k x0 x1 x5 x6 x7 false)) else (none)) else (some x5)
def spenceref01_Pieces.j1 : Nat → ByteArray → Bool → List ByteArray → Bool → Int → Bool → Option (List ByteArray)
  | 0, _, _, _, _, _, _ => none
  | k + 1, x0, x1, x5, x6, x7, x21 => if x21 = true then (if 0 ≤ x7 then (if x7 < (x0.size : Int) then (if (bt x0 x7) = 44 then (if x6 = true then (if x5.length < 8796093022208 then (spenceref01_Pieces.l0 k x0 x1 (x5 ++ [(⟨#[]⟩ : ByteArray)]) (!x6) (wrap64 (x7 + 1))) else (none)) else (if 0 ≤ (wrap64 ((x5.length : Int) - 1)) then (if (wrap64 ((x5.length : Int) - 1)) < (x5.length : Int) then ((some (([bt x0 x7] : List Int) : List Int)).bind fun y220 => (if (rdOf ByteArray.empty x5 (wrap64 ((x5.length : Int) - 1))).size + ((strOfNums y220).size) ≤ 9223372036854775807 then (spenceref01_Pieces.l0 k x0 x1 (x5.set ((wrap64 ((x5.length : Int) - 1)) : Int).toNat ((rdOf ByteArray.empty x5 (wrap64 ((x5.length : Int) - 1))) ++ (strOfNums y220))) (!x6) (wrap64 (x7 + 1))) else (none))) else (none)) else (none))) else (if 0 ≤ (wrap64 ((x5.length : Int) - 1)) then (if (wrap64 ((x5.length : Int) - 1)) < (x5.length : Int) then ((some (([bt x0 x7] : List Int) : List Int)).bind fun y225 => (if (rdOf ByteArray.empty x5 (wrap64 ((x5.length : Int) - 1))).size + ((strOfNums y225).size) ≤ 9223372036854775807 then (spenceref01_Pieces.l0 k x0 x1 (x5.set ((wrap64 ((x5.length : Int) - 1)) : Int).toNat ((rdOf ByteArray.empty x5 (wrap64 ((x5.length : Int) - 1))) ++ (strOfNums y225))) (!x6) (wrap64 (x7 + 1))) else (none))) else (none)) else (none))) else (none)) else (none)) else (if 0 ≤ x7 then (if x7 < (x0.size : Int) then (if (bt x0 x7) = 44 then (if x6 = true then (if 0 ≤ (wrap64 ((x5.length : Int) - 1)) then (if (wrap64 ((x5.length : Int) - 1)) < (x5.length : Int) then ((some (([bt x0 x7] : List Int) : List Int)).bind fun y230 => (if (rdOf ByteArray.empty x5 (wrap64 ((x5.length : Int) - 1))).size + ((strOfNums y230).size) ≤ 9223372036854775807 then (spenceref01_Pieces.l0 k x0 x1 (x5.set ((wrap64 ((x5.length : Int) - 1)) : Int).toNat ((rdOf ByteArray.empty x5 (wrap64 ((x5.length : Int) - 1))) ++ (strOfNums y230))) x6 (wrap64 (x7 + 1))) else (none))) else (none)) else (none)) else (if x5.length < 8796093022208 then (spenceref01_Pieces.l0 k x0 x1 (x5 ++ [(⟨#[]⟩ : ByteArray)]) x6 (wrap64 (x7 + 1))) else (none))) else (if 0 ≤ (wrap64 ((x5.length : Int) - 1)) then (if (wrap64 ((x5.length : Int) - 1)) < (x5.length : Int) then ((some (([bt x0 x7] : List Int) : List Int)).bind fun y238 => (if (rdOf ByteArray.empty x5 (wrap64 ((x5.length : Int) - 1))).size + ((strOfNums y238).size) ≤ 9223372036854775807 then (spenceref01_Pieces.l0 k x0 x1 (x5.set ((wrap64 ((x5.length : Int) - 1)) : Int).toNat ((rdOf ByteArray.empty x5 (wrap64 ((x5.length : Int) - 1))) ++ (strOfNums y238))) x6 (wrap64 (x7 + 1))) else (none))) else (none)) else (none))) else (none)) else (none))
end
def spenceref01_Pieces.f (k : Nat) (a0 : ByteArray) (a1 : Bool) : Option (List ByteArray) := spenceref01_Pieces.l0 k a0 a1 (([(⟨#[]⟩ : ByteArray)] : List ByteArray)) false 0
theorem spenceref01_Pieces.mono_l : ∀ k, (∀ y0 y1 y2 y3 y4, LeO (spenceref01_Pieces.l0 k y0 y1 y2 y3 y4) (spenceref01_Pieces.l0 (k + 1) y0 y1 y2 y3 y4)) ∧ (∀ y0 y1 y2 y3 y4 y5, LeO (spenceref01_Pieces.j1 k y0 y1 y2 y3 y4 y5) (spenceref01_Pieces.j1 (k + 1) y0 y1 y2 y3 y4 y5))
  | 0 => ⟨fun _ _ _ _ _ r h => by simp [spenceref01_Pieces.l0] at h, fun _ _ _ _ _ _ r h => by simp [spenceref01_Pieces.j1] at h⟩
  | k + 1 => by
    obtain ⟨ih0, ih1⟩ := spenceref01_Pieces.mono_l k
    refine ⟨?_, ?_⟩
    · intro y0 y1 y2 y3 y4
      unfold spenceref01_Pieces.l0
      repeat' first
      | (with_reducible exact ih0 _ _ _ _ _)
      | (with_reducible exact ih1 _ _ _ _ _ _)
      | (with_reducible exact LeO.refl _)
      | (with_reducible exact LeO.none _)
      | (with_reducible refine LeO.ite ?_ ?_)
      | (with_reducible refine LeO.bind ?_ (fun _ => ?_))
      | exact ih0 _ _ _ _ _
      | exact ih1 _ _ _ _ _ _
      | exact LeO.none _
      | refine LeO.ite ?_ ?_
      | refine LeO.bind ?_ (fun _ => ?_)
    · intro y0 y1 y2 y3 y4 y5
      unfold spenceref01_Pieces.j1
      repeat' first
      | (with_reducible exact ih0 _ _ _ _ _)
      | (with_reducible exact ih1 _ _ _ _ _ _)
      | (with_reducible exact LeO.refl _)
      | (with_reducible exact LeO.none _)
      | (with_reducible refine LeO.ite ?_ ?_)
      | (with_reducible refine LeO.bind ?_ (fun _ => ?_))
      | exact ih0 _ _ _ _ _
      | exact ih1 _ _ _ _ _ _
      | exact LeO.none _
      | refine LeO.ite ?_ ?_
      | refine LeO.bind ?_ (fun _ => ?_)
theorem spenceref01_Pieces.mono : ∀ a0 a1 k, LeO (spenceref01_Pieces.f k a0 a1) (spenceref01_Pieces.f (k + 1) a0 a1) := by
  intro a0 a1 k
  obtain ⟨ih0, ih1⟩ := spenceref01_Pieces.mono_l k
  unfold spenceref01_Pieces.f
  repeat' first
      | (with_reducible exact ih0 _ _ _ _ _)
      | (with_reducible exact ih1 _ _ _ _ _ _)
      | (with_reducible exact LeO.refl _)
      | (with_reducible exact LeO.none _)
      | (with_reducible refine LeO.ite ?_ ?_)
      | (with_reducible refine LeO.bind ?_ (fun _ => ?_))
      | exact ih0 _ _ _ _ _
      | exact ih1 _ _ _ _ _ _
      | exact LeO.none _
      | refine LeO.ite ?_ ?_
      | refine LeO.bind ?_ (fun _ => ?_)
end Go.Proofs.YtndghocppadimaaDoor.PAll
namespace Go.Proofs.YtndghocppadimaaDoor.PAll
open Go.RowKit Go.Proofs.YtndghocppadimaaDoor.Xw Go.Proofs.YtndghocppadimaaDoorW.PrintWords Go.Proofs.YtndghocppadimaaDoorW.PrintLast Go.Proofs.YtndghocppadimaaDoorW.PrintMore
attribute [local go_sem] max2_int min2_int max_two min_two max_three min_three max_four min_four   -- for this text's walks alone
set_option linter.unusedVariables false
set_option linter.unusedSimpArgs false
def spenceref01_Lower.l0 : Nat → ByteArray → ByteArray → Int → Option (ByteArray)
  | 0, _, _, _ => none
  | k + 1, x0, x3, x4 => if x4 < (x0.size : Int) then (if 0 ≤ x4 then (if (bt x0 x4) ≥ 65 then (if (bt x0 x4) ≤ 90 then ((some (([((bt x0 x4) + 32) % 256] : List Int) : List Int)).bind fun y242 => (if x3.size + ((strOfNums y242).size) ≤ 9223372036854775807 then (spenceref01_Lower.l0 k x0 (x3 ++ (strOfNums y242)) (wrap64 (x4 + 1))) else (none))) else ((some (([bt x0 x4] : List Int) : List Int)).bind fun y245 => (if x3.size + ((strOfNums y245).size) ≤ 9223372036854775807 then (spenceref01_Lower.l0 k x0 (x3 ++ (strOfNums y245)) (wrap64 (x4 + 1))) else (none)))) else ((some (([bt x0 x4] : List Int) : List Int)).bind fun y248 => (if x3.size + ((strOfNums y248).size) ≤ 9223372036854775807 then (spenceref01_Lower.l0 k x0 (x3 ++ (strOfNums y248)) (wrap64 (x4 + 1))) else (none)))) else (none)) else (some x3)
def spenceref01_Lower.f (k : Nat) (a0 : ByteArray) : Option (ByteArray) := spenceref01_Lower.l0 k a0 (⟨#[]⟩ : ByteArray) 0
theorem spenceref01_Lower.mono_l : ∀ k, (∀ y0 y1 y2, LeO (spenceref01_Lower.l0 k y0 y1 y2) (spenceref01_Lower.l0 (k + 1) y0 y1 y2))
  | 0 => fun _ _ _ r h => by simp [spenceref01_Lower.l0] at h
  | k + 1 => by
    have ih0 := spenceref01_Lower.mono_l k
    · intro y0 y1 y2
      unfold spenceref01_Lower.l0
      repeat' first
      | (with_reducible exact ih0 _ _ _)
      | (with_reducible exact LeO.refl _)
      | (with_reducible exact LeO.none _)
      | (with_reducible refine LeO.ite ?_ ?_)
      | (with_reducible refine LeO.bind ?_ (fun _ => ?_))
      | exact ih0 _ _ _
      | exact LeO.none _
      | refine LeO.ite ?_ ?_
      | refine LeO.bind ?_ (fun _ => ?_)
theorem spenceref01_Lower.mono : ∀ a0 k, LeO (spenceref01_Lower.f k a0) (spenceref01_Lower.f (k + 1) a0) := by
  intro a0 k
  have ih0 := spenceref01_Lower.mono_l k
  unfold spenceref01_Lower.f
  repeat' first
      | (with_reducible exact ih0 _ _ _)
      | (with_reducible exact LeO.refl _)
      | (with_reducible exact LeO.none _)
      | (with_reducible refine LeO.ite ?_ ?_)
      | (with_reducible refine LeO.bind ?_ (fun _ => ?_))
      | exact ih0 _ _ _
      | exact LeO.none _
      | refine LeO.ite ?_ ?_
      | refine LeO.bind ?_ (fun _ => ?_)
mutual
def spenceref04_Specs.j0 : Nat → List ByteArray → Bool → Option ((List (S33)) × Int)
  | 0, _, _ => none
  | k + 1, x7, x43 => if x43 = true then (some (([] : List (S33)), 3)) else (spenceref04_Specs.l0 k ([] : List (S33)) false x7 (x7.length : Int) 0)
def spenceref04_Specs.l0 : Nat → List (S33) → Bool → List ByteArray → Int → Int → Option ((List (S33)) × Int)
  | 0, _, _, _, _, _ => none
  | k + 1, x9, x10, x44, x45, x46 => if x46 < x45 then (if 0 ≤ x46 then (if x46 < (x44.length : Int) then ((spenceref04_One.f k (rdOf ByteArray.empty x44 x46)).bind fun bt264 => (if bt264.2.2.2 = 3 then (some (([] : List (S33)), 3)) else (if x10 = true then (if x9.length < 5864062014805 then (spenceref04_Specs.l0 k (x9 ++ [(⟨bt264.1, bt264.2.1, bt264.2.2.1⟩ : S33)]) true x44 x45 (wrap64 (x46 + 1))) else (none)) else (if x9.length < 5864062014805 then (spenceref04_Specs.l0 k (x9 ++ [(⟨bt264.1, bt264.2.1, bt264.2.2.1⟩ : S33)]) (bt264.2.2.2 != 0) x44 x45 (wrap64 (x46 + 1))) else (none))))) else (none)) else (none)) else (if x10 = true then (some (([] : List (S33)), 9)) else (if (x9.length : Int) > 16 then (some (([] : List (S33)), 10)) else (some (x9, 0))))
end
def spenceref04_Specs.f (k : Nat) (a0 : ByteArray) : Option ((List (S33)) × Int) := (spenceref01_Trim.f k a0 false).bind fun t251 => ((spenceref01_Cut.f k t251 61).bind fun bt252 => ((spenceref01_Pieces.f k bt252.2.1 false).bind fun t255 => ((spenceref01_List.f k t255).bind fun bt258 => (if bt252.2.2 = true then ((spenceref01_Lower.f k bt252.1).bind fun t262 => (if t262.toList = ([98, 121, 116, 101, 115] : List UInt8) then (if bt258.2 = true then (spenceref04_Specs.j0 k bt258.1 ((bt258.1.length : Int) == 0)) else (spenceref04_Specs.j0 k bt258.1 true)) else (spenceref04_Specs.j0 k bt258.1 true))) else (spenceref04_Specs.j0 k bt258.1 true)))))
theorem spenceref04_Specs.mono_l : ∀ k, (∀ y0 y1, LeO (spenceref04_Specs.j0 k y0 y1) (spenceref04_Specs.j0 (k + 1) y0 y1)) ∧ (∀ y0 y1 y2 y3 y4, LeO (spenceref04_Specs.l0 k y0 y1 y2 y3 y4) (spenceref04_Specs.l0 (k + 1) y0 y1 y2 y3 y4))
  | 0 => ⟨fun _ _ r h => by simp [spenceref04_Specs.j0] at h, fun _ _ _ _ _ r h => by simp [spenceref04_Specs.l0] at h⟩
  | k + 1 => by
    obtain ⟨ih0, ih1⟩ := spenceref04_Specs.mono_l k
    refine ⟨?_, ?_⟩
    · intro y0 y1
      unfold spenceref04_Specs.j0
      repeat' first
      | (with_reducible exact ih0 _ _)
      | (with_reducible exact ih1 _ _ _ _ _)
      | (with_reducible exact spenceref01_Cut.mono _ _ _)
      | (with_reducible exact spenceref01_List.mono _ _)
      | (with_reducible exact spenceref01_Lower.mono _ _)
      | (with_reducible exact spenceref01_Pieces.mono _ _ _)
      | (with_reducible exact spenceref01_Trim.mono _ _ _)
      | (with_reducible exact spenceref04_One.mono _ _)
      | (with_reducible exact LeO.refl _)
      | (with_reducible exact LeO.none _)
      | (with_reducible refine LeO.ite ?_ ?_)
      | (with_reducible refine LeO.bind ?_ (fun _ => ?_))
      | exact ih0 _ _
      | exact ih1 _ _ _ _ _
      | exact spenceref01_Cut.mono _ _ _
      | exact spenceref01_List.mono _ _
      | exact spenceref01_Lower.mono _ _
      | exact spenceref01_Pieces.mono _ _ _
      | exact spenceref01_Trim.mono _ _ _
      | exact spenceref04_One.mono _ _
      | exact LeO.none _
      | refine LeO.ite ?_ ?_
      | refine LeO.bind ?_ (fun _ => ?_)
    · intro y0 y1 y2 y3 y4
      unfold spenceref04_Specs.l0
      repeat' first
      | (with_reducible exact ih0 _ _)
      | (with_reducible exact ih1 _ _ _ _ _)
      | (with_reducible exact spenceref01_Cut.mono _ _ _)
      | (with_reducible exact spenceref01_List.mono _ _)
      | (with_reducible exact spenceref01_Lower.mono _ _)
      | (with_reducible exact spenceref01_Pieces.mono _ _ _)
      | (with_reducible exact spenceref01_Trim.mono _ _ _)
      | (with_reducible exact spenceref04_One.mono _ _)
      | (with_reducible exact LeO.refl _)
      | (with_reducible exact LeO.none _)
      | (with_reducible refine LeO.ite ?_ ?_)
      | (with_reducible refine LeO.bind ?_ (fun _ => ?_))
      | exact ih0 _ _
      | exact ih1 _ _ _ _ _
      | exact spenceref01_Cut.mono _ _ _
      | exact spenceref01_List.mono _ _
      | exact spenceref01_Lower.mono _ _
      | exact spenceref01_Pieces.mono _ _ _
      | exact spenceref01_Trim.mono _ _ _
      | exact spenceref04_One.mono _ _
      | exact LeO.none _
      | refine LeO.ite ?_ ?_
      | refine LeO.bind ?_ (fun _ => ?_)
theorem spenceref04_Specs.mono : ∀ a0 k, LeO (spenceref04_Specs.f k a0) (spenceref04_Specs.f (k + 1) a0) := by
  intro a0 k
  obtain ⟨ih0, ih1⟩ := spenceref04_Specs.mono_l k
  unfold spenceref04_Specs.f
  repeat' first
      | (with_reducible exact ih0 _ _)
      | (with_reducible exact ih1 _ _ _ _ _)
      | (with_reducible exact spenceref01_Cut.mono _ _ _)
      | (with_reducible exact spenceref01_List.mono _ _)
      | (with_reducible exact spenceref01_Lower.mono _ _)
      | (with_reducible exact spenceref01_Pieces.mono _ _ _)
      | (with_reducible exact spenceref01_Trim.mono _ _ _)
      | (with_reducible exact spenceref04_One.mono _ _)
      | (with_reducible exact LeO.refl _)
      | (with_reducible exact LeO.none _)
      | (with_reducible refine LeO.ite ?_ ?_)
      | (with_reducible refine LeO.bind ?_ (fun _ => ?_))
      | exact ih0 _ _
      | exact ih1 _ _ _ _ _
      | exact spenceref01_Cut.mono _ _ _
      | exact spenceref01_List.mono _ _
      | exact spenceref01_Lower.mono _ _
      | exact spenceref01_Pieces.mono _ _ _
      | exact spenceref01_Trim.mono _ _ _
      | exact spenceref04_One.mono _ _
      | exact LeO.none _
      | refine LeO.ite ?_ ?_
      | refine LeO.bind ?_ (fun _ => ?_)
end Go.Proofs.YtndghocppadimaaDoor.PAll
namespace Go.Proofs.YtndghocppadimaaDoor.PAll
open Go.RowKit Go.Proofs.YtndghocppadimaaDoor.Xw Go.Proofs.YtndghocppadimaaDoorW.PrintWords Go.Proofs.YtndghocppadimaaDoorW.PrintLast Go.Proofs.YtndghocppadimaaDoorW.PrintMore
attribute [local go_sem] max2_int min2_int max_two min_two max_three min_three max_four min_four   -- for this text's walks alone
set_option linter.unusedVariables false
set_option linter.unusedSimpArgs false
attribute [local go_sem high] eqA33
def spencelaw05_same.l0 : Nat → List (S33) → List (S33) → Int → Int → Option (Bool)
  | 0, _, _, _, _ => none
  | k + 1, x0, x1, x12, x13 => if x13 < x12 then (if 0 ≤ x13 then (if x13 < (x0.length : Int) then (if x13 < (x1.length : Int) then (if (!(((rd_T33 x0 x13).f0) == ((rd_T33 x1 x13).f0)) || (!(((rd_T33 x0 x13).f1) == ((rd_T33 x1 x13).f1)) || (!(((rd_T33 x0 x13).f2) == ((rd_T33 x1 x13).f2))))) = true then (some false) else (spencelaw05_same.l0 k x0 x1 x12 (wrap64 (x13 + 1)))) else (none)) else (none)) else (none)) else (some true)
def spencelaw05_same.f (k : Nat) (l0 : List (S33)) (l1 : List (S33)) : Option (Bool) := if (l0.length : Int) = (l1.length : Int) then (spencelaw05_same.l0 k l0 l1 (l0.length : Int) 0) else (some false)
theorem spencelaw05_same.mono_l : ∀ k, (∀ y0 y1 y2 y3, LeO (spencelaw05_same.l0 k y0 y1 y2 y3) (spencelaw05_same.l0 (k + 1) y0 y1 y2 y3))
  | 0 => fun _ _ _ _ r h => by simp [spencelaw05_same.l0] at h
  | k + 1 => by
    have ih0 := spencelaw05_same.mono_l k
    · intro y0 y1 y2 y3
      unfold spencelaw05_same.l0
      repeat' first
      | (with_reducible exact ih0 _ _ _ _)
      | (with_reducible exact LeO.refl _)
      | (with_reducible exact LeO.none _)
      | (with_reducible refine LeO.ite ?_ ?_)
      | (with_reducible refine LeO.bind ?_ (fun _ => ?_))
      | exact ih0 _ _ _ _
      | exact LeO.none _
      | refine LeO.ite ?_ ?_
      | refine LeO.bind ?_ (fun _ => ?_)
theorem spencelaw05_same.mono : ∀ a0 a1 k, LeO (spencelaw05_same.f k a0 a1) (spencelaw05_same.f (k + 1) a0 a1) := by
  intro a0 a1 k
  have ih0 := spencelaw05_same.mono_l k
  unfold spencelaw05_same.f
  repeat' first
      | (with_reducible exact ih0 _ _ _ _)
      | (with_reducible exact LeO.refl _)
      | (with_reducible exact LeO.none _)
      | (with_reducible refine LeO.ite ?_ ?_)
      | (with_reducible refine LeO.bind ?_ (fun _ => ?_))
      | exact ih0 _ _ _ _
      | exact LeO.none _
      | refine LeO.ite ?_ ?_
      | refine LeO.bind ?_ (fun _ => ?_)
set_option maxHeartbeats 8000000 in
set_option maxRecDepth 100000 in
theorem spencelaw05_same.calls (k : Nat) (A0 : Option Addr) (c0 : Nat) (l0 : List (S33)) (A1 : Option Addr) (c1 : Nat) (l1 : List (S33)) (r : Bool) (w : World) (hr0 : Kd.C k33 w A0 l0.length l0) (hc0 : l0.length ≤ c0) (hr1 : Kd.C k33 w A1 l1.length l1) (hc1 : l1.length ≤ c1) (h : spencelaw05_same.f k l0 l1 = some r) :
    Calls Tryd.prog 9 #[.slice A0 l0.length c0, .slice A1 l1.length c1] w fun e w' => e = .returned (.bool r) ∧ Drawn0 w w' := by
  have hu33 := Tryd.underlying33
  have HR0 := Aside0.mk hr0
  have HC0 := Aside0.mk hc0
  clear hr0 hc0
  have HR1 := Aside0.mk hr1
  have HC1 := Aside0.mk hc1
  clear hr1 hc1
  have H : (if (l0.length : Int) = (l1.length : Int) then (spencelaw05_same.l0 k l0 l1 (l0.length : Int) 0) else (some false)) = some r := h
  clear h
  by_cases c3 : (l0.length : Int) = (l1.length : Int)
  · rw [if_pos c3] at H
    have c3b0 : ((l0.length : Int) == (l1.length : Int)) = true := beq_iff_eq.mpr c3
    have c3b1 : ((l0.length : Int) != (l1.length : Int)) = false := bne_eq_false_iff_eq.mpr c3
    have c3b2 : (l0.length == l1.length) = true := by first | simpa using c3 | (simp at c3 ⊢; omega)
    clear c3
    have H' := Aside0.mk H
    clear H
    go_enter Tryd.func9, Tryd.ntmps9
    go_wp2
    repeat (go_quiet (fail); try go_wp2)
    go_loopg [13] k (fun kq v13 w' => ∃ (x13_1 : Int), v13 = .int .i64 x13_1 ∧ Aside0 (spencelaw05_same.l0 kq l0 l1 (l0.length : Int) x13_1 = some r) ∧ Aside0 (kq ≤ k) ∧ Drawn0 w w')
    case atStart => exact ⟨(0), (by first | rfl | (simp; done) | (simp [*]; done)), H', ⟨Nat.le_refl _⟩, by repeat (first | exact Drawn0.refl _ | apply Drawn0.step)⟩
    case round =>
      clear H'
      try clear c1
      try clear p2
      try clear c3
      try clear c3b0
      try clear c3b1
      try clear c3b2
      obtain ⟨x13_1, rfl, HA, HK1, ⟨m1, rfl⟩⟩ := hrel
      cases gk with
      | zero => exact absurd HA.out (by simp [spencelaw05_same.l0])
      | succ k1 =>
        have H := HA.out
        clear HA
        simp only [spencelaw05_same.l0] at H
        by_cases c4 : x13_1 < (l0.length : Int)
        · rw [if_pos c4] at H
          have c4b0 : decide (x13_1 < (l0.length : Int)) = true := decide_eq_true c4
          clear c4
          by_cases c5 : 0 ≤ x13_1
          · rw [if_pos c5] at H
            have c5b0 : decide (0 ≤ x13_1) = true := decide_eq_true c5
            clear c5
            by_cases c6 : x13_1 < (l0.length : Int)
            · rw [if_pos c6] at H
              have c6b0 : decide (x13_1 < (l0.length : Int)) = true := decide_eq_true c6
              clear c6
              by_cases c7 : x13_1 < (l1.length : Int)
              · rw [if_pos c7] at H
                have c7b0 : decide (x13_1 < (l1.length : Int)) = true := decide_eq_true c7
                clear c7
                by_cases c8 : (!(((rd_T33 l0 x13_1).f0) == ((rd_T33 l1 x13_1).f0)) || (!(((rd_T33 l0 x13_1).f1) == ((rd_T33 l1 x13_1).f1)) || (!(((rd_T33 l0 x13_1).f2) == ((rd_T33 l1 x13_1).f2))))) = true
                · rw [if_pos c8] at H
                  have c8b0 : (!(((rd_T33 l0 x13_1).f0) == ((rd_T33 l1 x13_1).f0)) || (!(((rd_T33 l0 x13_1).f1) == ((rd_T33 l1 x13_1).f1)) || (!(((rd_T33 l0 x13_1).f2) == ((rd_T33 l1 x13_1).f2))))) = true := c8
                  clear c8
                  obtain rfl := Option.some.inj H
                  have p275 : 0 ≤ (x13_1 : Int) := of_decide_eq_true (by first | (with_reducible assumption) | assumption)
                  have q275 : x13_1 < (l0.length : Int) := of_decide_eq_true (by first | (with_reducible assumption) | assumption)
                  obtain ⟨ad275, e275, hx275_0, hx275_1, hx275_2⟩ := at_T33 HR0.out x13_1 p275 q275
                  cases e275
                  replace p275 := eq_true p275
                  replace q275 := eq_true q275
                  have p276 : 0 ≤ (x13_1 : Int) := of_decide_eq_true (by first | (with_reducible assumption) | assumption)
                  have q276 : x13_1 < (l1.length : Int) := of_decide_eq_true (by first | (with_reducible assumption) | assumption)
                  obtain ⟨ad276, e276, hx276_0, hx276_1, hx276_2⟩ := at_T33 HR1.out x13_1 p276 q276
                  cases e276
                  replace p276 := eq_true p276
                  replace q276 := eq_true q276
                  go_wp2
                  repeat (go_quiet (fail); try go_wp2)
                  go_ret
                  exact ⟨by first | rfl | (simp; done) | (simp [*]; done) | exact ne_empty _ | exact eq_empty _, by repeat (first | exact Drawn0.refl _ | apply Drawn0.step)⟩
                · rw [if_neg c8] at H
                  have c8b0 : (!(((rd_T33 l0 x13_1).f0) == ((rd_T33 l1 x13_1).f0)) || (!(((rd_T33 l0 x13_1).f1) == ((rd_T33 l1 x13_1).f1)) || (!(((rd_T33 l0 x13_1).f2) == ((rd_T33 l1 x13_1).f2))))) = false := by simpa using c8
                  clear c8
                  have H' := Aside0.mk H
                  clear H
                  have p275 : 0 ≤ (x13_1 : Int) := of_decide_eq_true (by first | (with_reducible assumption) | assumption)
                  have q275 : x13_1 < (l0.length : Int) := of_decide_eq_true (by first | (with_reducible assumption) | assumption)
                  obtain ⟨ad275, e275, hx275_0, hx275_1, hx275_2⟩ := at_T33 HR0.out x13_1 p275 q275
                  cases e275
                  replace p275 := eq_true p275
                  replace q275 := eq_true q275
                  have p276 : 0 ≤ (x13_1 : Int) := of_decide_eq_true (by first | (with_reducible assumption) | assumption)
                  have q276 : x13_1 < (l1.length : Int) := of_decide_eq_true (by first | (with_reducible assumption) | assumption)
                  obtain ⟨ad276, e276, hx276_0, hx276_1, hx276_2⟩ := at_T33 HR1.out x13_1 p276 q276
                  cases e276
                  replace p276 := eq_true p276
                  replace q276 := eq_true q276
                  go_wp2
                  repeat (go_quiet (fail); try go_wp2)
                  go_roundg k1
                  case measure => have := HK1.out; omega
                  case rel => exact ⟨(wrap64 (x13_1 + 1)), (by first | rfl | (simp; done) | (simp [*]; done)), H', ⟨by have := HK1.out; omega⟩, by repeat (first | exact Drawn0.refl _ | apply Drawn0.step)⟩
              · rw [if_neg c7] at H
                exact absurd H (by simp)
            · rw [if_neg c6] at H
              exact absurd H (by simp)
          · rw [if_neg c5] at H
            exact absurd H (by simp)
        · rw [if_neg c4] at H
          have c4b0 : decide (x13_1 < (l0.length : Int)) = false := decide_eq_false c4
          clear c4
          obtain rfl := Option.some.inj H
          go_wp2
          repeat (go_quiet (fail); try go_wp2)
          go_ret
          exact ⟨by first | rfl | (simp; done) | (simp [*]; done) | exact ne_empty _ | exact eq_empty _, by repeat (first | exact Drawn0.refl _ | apply Drawn0.step)⟩
  · rw [if_neg c3] at H
    have c3b0 : ((l0.length : Int) == (l1.length : Int)) = false := beq_eq_false_iff_ne.mpr c3
    have c3b1 : ((l0.length : Int) != (l1.length : Int)) = true := bne_iff_ne.mpr c3
    have c3b2 : (l0.length == l1.length) = false := by first | simpa using c3 | (simp at c3 ⊢; omega)
    obtain rfl := Option.some.inj H
    go_enter Tryd.func9, Tryd.ntmps9
    go_wp2
    repeat (go_quiet (fail); try go_wp2)
    go_ret
    exact ⟨by first | rfl | (simp; done) | (simp [*]; done) | exact ne_empty _ | exact eq_empty _, by repeat (first | exact Drawn0.refl _ | apply Drawn0.step)⟩
def spec_Asked.f (k : Nat) (a0 : ByteArray) : Option ((List (S33))) := (spec_Parse.f k a0).bind fun bt277 => (some bt277.1)
theorem spec_Asked.mono : ∀ a0 k, LeO (spec_Asked.f k a0) (spec_Asked.f (k + 1) a0) := by
  intro a0 k
  unfold spec_Asked.f
  repeat' first
      | (with_reducible exact spec_Parse.mono _ _)
      | (with_reducible exact LeO.refl _)
      | (with_reducible exact LeO.none _)
      | (with_reducible refine LeO.ite ?_ ?_)
      | (with_reducible refine LeO.bind ?_ (fun _ => ?_))
      | exact spec_Parse.mono _ _
      | exact LeO.none _
      | refine LeO.ite ?_ ?_
      | refine LeO.bind ?_ (fun _ => ?_)
def spencelaw05_SpecParses.f (k : Nat) (a0 : ByteArray) : Option (Bool) := (spencelaw05_awake.f k).bind fun t281 => (if t281 = true then (if (a0.size : Int) > 600 then (some true) else ((spec_Parse.f k a0).bind fun bt282 => ((spenceref04_Specs.f k a0).bind fun bt286 => (if bt282.2 = bt286.2 then ((spencelaw05_same.f k bt282.1 bt286.1).bind fun t290 => (if t290 = true then ((spec_Asked.f k a0).bind fun t291 => ((spencelaw05_same.f k t291 bt286.1).bind fun t294 => (some t294))) else (some false))) else (some false))))) else (some false))
theorem spencelaw05_SpecParses.mono : ∀ a0 k, LeO (spencelaw05_SpecParses.f k a0) (spencelaw05_SpecParses.f (k + 1) a0) := by
  intro a0 k
  unfold spencelaw05_SpecParses.f
  repeat' first
      | (with_reducible exact spec_Asked.mono _ _)
      | (with_reducible exact spec_Parse.mono _ _)
      | (with_reducible exact spencelaw05_awake.mono _)
      | (with_reducible exact spencelaw05_same.mono _ _ _)
      | (with_reducible exact spenceref04_Specs.mono _ _)
      | (with_reducible exact LeO.refl _)
      | (with_reducible exact LeO.none _)
      | (with_reducible refine LeO.ite ?_ ?_)
      | (with_reducible refine LeO.bind ?_ (fun _ => ?_))
      | exact spec_Asked.mono _ _
      | exact spec_Parse.mono _ _
      | exact spencelaw05_awake.mono _
      | exact spencelaw05_same.mono _ _ _
      | exact spenceref04_Specs.mono _ _
      | exact LeO.none _
      | refine LeO.ite ?_ ?_
      | refine LeO.bind ?_ (fun _ => ?_)
def spenceref04_RightSpec.j0 : Nat → Bool → Int → Int → Int → Option (Bool)
  | 0, _, _, _, _ => none
  | k + 1, x15, x296000, x296001, x296002 => if x15 = true then (some false) else (if x296000 = 2 then (some (decide (x296002 ≥ x296001))) else (if x296000 = 1 then (some (x296002 == 0)) else (if x296000 = 3 then (some (x296002 == 0)) else (some false))))
def spenceref04_RightSpec.f (k : Nat) (a0_0 : Int) (a0_1 : Int) (a0_2 : Int) : Option (Bool) := if a0_1 < 0 then (spenceref04_RightSpec.j0 k true a0_0 a0_1 a0_2) else (if a0_1 > 4611686018427387903 then (spenceref04_RightSpec.j0 k true a0_0 a0_1 a0_2) else (spenceref04_RightSpec.j0 k (decide (a0_2 > 4611686018427387903)) a0_0 a0_1 a0_2))
theorem spenceref04_RightSpec.mono_l : ∀ k, (∀ y0 y1 y2 y3, LeO (spenceref04_RightSpec.j0 k y0 y1 y2 y3) (spenceref04_RightSpec.j0 (k + 1) y0 y1 y2 y3))
  | 0 => fun _ _ _ _ r h => by simp [spenceref04_RightSpec.j0] at h
  | k + 1 => by
    have ih0 := spenceref04_RightSpec.mono_l k
    · intro y0 y1 y2 y3
      unfold spenceref04_RightSpec.j0
      repeat' first
      | (with_reducible exact ih0 _ _ _ _)
      | (with_reducible exact LeO.refl _)
      | (with_reducible exact LeO.none _)
      | (with_reducible refine LeO.ite ?_ ?_)
      | (with_reducible refine LeO.bind ?_ (fun _ => ?_))
      | exact ih0 _ _ _ _
      | exact LeO.none _
      | refine LeO.ite ?_ ?_
      | refine LeO.bind ?_ (fun _ => ?_)
theorem spenceref04_RightSpec.mono : ∀ a0 a1 a2 k, LeO (spenceref04_RightSpec.f k a0 a1 a2) (spenceref04_RightSpec.f (k + 1) a0 a1 a2) := by
  intro a0 a1 a2 k
  have ih0 := spenceref04_RightSpec.mono_l k
  unfold spenceref04_RightSpec.f
  repeat' first
      | (with_reducible exact ih0 _ _ _ _)
      | (with_reducible exact LeO.refl _)
      | (with_reducible exact LeO.none _)
      | (with_reducible refine LeO.ite ?_ ?_)
      | (with_reducible refine LeO.bind ?_ (fun _ => ?_))
      | exact ih0 _ _ _ _
      | exact LeO.none _
      | refine LeO.ite ?_ ?_
      | refine LeO.bind ?_ (fun _ => ?_)
set_option maxHeartbeats 8000000 in
set_option maxRecDepth 100000 in
theorem spenceref04_RightSpec.calls (k : Nat) (a0_0 : Int) (a0_1 : Int) (a0_2 : Int) (r : Bool) (w : World) (h : spenceref04_RightSpec.f k a0_0 a0_1 a0_2 = some r) :
    Calls Tryd.prog 11 #[.agg #[.int .i64 a0_0, .int .i64 a0_1, .int .i64 a0_2]] w fun e w' => e = .returned (.bool r) ∧ Below w.heap.size w w' := by
  have hu33 := Tryd.underlying33
  have HB := Aside0.mk (Below.refl w.heap.size w)
  have H : (if a0_1 < 0 then (spenceref04_RightSpec.j0 k true a0_0 a0_1 a0_2) else (if a0_1 > 4611686018427387903 then (spenceref04_RightSpec.j0 k true a0_0 a0_1 a0_2) else (spenceref04_RightSpec.j0 k (decide (a0_2 > 4611686018427387903)) a0_0 a0_1 a0_2))) = some r := h
  clear h
  have HC2 := Aside0.mk H
  clear H
  go_enter Tryd.func11, Tryd.ntmps11
  go_upto_region 1 with (first | ((with_reducible refine gate_dst (N := 1) rfl ?_); refine box_event ?hg (N := 1) ?hd (cs := #[.int .i64 a0_0, .int .i64 a0_1, .int .i64 a0_2]) (t := 33) ?hr ?_; (case hd => rfl); (case hg => rfl); (case hr => first | (go_simp; done) | (go_simp; rfl)); intro gb295 hg w3 hbox hb; have n0_ := Aside0.mk (below_step (by repeat (first | (with_reducible first | exact HB.out | apply below_alloc | apply pw_below_drewN | apply below_drew1) | exact HB.out)) hb); have n1_ := Aside0.mk (hbox); have n2_ := Aside0.mk ((by rw [hg]; exact (below_size (by repeat (first | (with_reducible first | exact HB.out | apply below_alloc | apply pw_below_drewN | apply below_drew1) | exact HB.out))) : w.heap.size ≤ gb295)); have n3_ := Aside0.mk ((by rw [hg]; exact (below_size (by repeat (first | (with_reducible first | exact HB.out | apply below_alloc | apply pw_below_drewN | apply below_drew1) | exact HB.out))) : w.heap.size ≤ gb295)); clear HB; have HB := n0_; have BK295 := n1_; have GW295 := n2_; have GE295 := n3_; clear n0_ n1_ n2_ n3_; clear hb hbox hg))
  (try simp only [Act.put, List.setIfInBounds_toArray, List.set_cons_zero, List.set_cons_succ])
  go_cut [15] (fun v15 wc => ∃ (kq : Nat) (x15_1 : Bool), v15 = .bool x15_1 ∧ Aside0 (spenceref04_RightSpec.j0 kq x15_1 a0_0 a0_1 a0_2 = some r) ∧ Aside0 (kq ≤ k) ∧ Aside0 (wc.heap[gb295]? = some (.cells #[.int .i64 a0_0, .int .i64 a0_1, .int .i64 a0_2] 33 (0, 0))) ∧ Aside0 (Below w.heap.size w wc))
  case first =>
    have H := HC2.out
    clear HC2
    by_cases c4 : a0_1 < 0
    · rw [if_pos c4] at H
      have c4b0 : decide (a0_1 < 0) = true := decide_eq_true c4
      clear c4
      (first | rw [c4b0] | (simp only [i64_w, i32_w]; rw [c4b0]) | skip)
      have H' := Aside0.mk H
      clear H
      have hcz5_0 : w3.cell? ⟨gb295, 0, none⟩ = some (.int .i64 a0_0) := (blk_cell BK295.out 0).trans rfl
      have hcz5_1 : w3.cell? ⟨gb295, 1, none⟩ = some (.int .i64 a0_1) := (blk_cell BK295.out 1).trans rfl
      have hcz5_2 : w3.cell? ⟨gb295, 2, none⟩ = some (.int .i64 a0_2) := (blk_cell BK295.out 2).trans rfl
      have hfz5_0 := blk_frozen BK295.out 0
      have hfz5_1 := blk_frozen BK295.out 1
      have hfz5_2 := blk_frozen BK295.out 2
      go_wp2
      go_meet
      case rel => exact ⟨_, (true), (by first | rfl | (simp; done) | (simp [*]; done)), H', ⟨by first | omega | exact Nat.le_refl _⟩, ⟨by (with_reducible repeat (first | refine blk_drewN ?_ _ | refine blk_drew ?_ | refine blk_alloc ?_ _)); exact BK295.out⟩, ⟨by repeat (first | (with_reducible first | exact HB.out | apply below_alloc | apply pw_below_drewN | apply below_drew1 | refine below_set ?_ GE295.out) | exact HB.out)⟩⟩
    · rw [if_neg c4] at H
      have c4b0 : decide (a0_1 < 0) = false := decide_eq_false c4
      clear c4
      (first | rw [c4b0] | (simp only [i64_w, i32_w]; rw [c4b0]) | skip)
      by_cases c6 : a0_1 > 4611686018427387903
      · rw [if_pos c6] at H
        have c6b0 : decide (4611686018427387903 < a0_1) = true := decide_eq_true c6
        clear c6
        have H' := Aside0.mk H
        clear H
        have hcz7_0 : w3.cell? ⟨gb295, 0, none⟩ = some (.int .i64 a0_0) := (blk_cell BK295.out 0).trans rfl
        have hcz7_1 : w3.cell? ⟨gb295, 1, none⟩ = some (.int .i64 a0_1) := (blk_cell BK295.out 1).trans rfl
        have hcz7_2 : w3.cell? ⟨gb295, 2, none⟩ = some (.int .i64 a0_2) := (blk_cell BK295.out 2).trans rfl
        have hfz7_0 := blk_frozen BK295.out 0
        have hfz7_1 := blk_frozen BK295.out 1
        have hfz7_2 := blk_frozen BK295.out 2
        go_wp2
        go_meet
        case rel => exact ⟨_, (true), (by first | rfl | (simp; done) | (simp [*]; done)), H', ⟨by first | omega | exact Nat.le_refl _⟩, ⟨by (with_reducible repeat (first | refine blk_drewN ?_ _ | refine blk_drew ?_ | refine blk_alloc ?_ _)); exact BK295.out⟩, ⟨by repeat (first | (with_reducible first | exact HB.out | apply below_alloc | apply pw_below_drewN | apply below_drew1 | refine below_set ?_ GE295.out) | exact HB.out)⟩⟩
      · rw [if_neg c6] at H
        have c6b0 : decide (4611686018427387903 < a0_1) = false := decide_eq_false c6
        clear c6
        have H' := Aside0.mk H
        clear H
        have hcz8_0 : w3.cell? ⟨gb295, 0, none⟩ = some (.int .i64 a0_0) := (blk_cell BK295.out 0).trans rfl
        have hcz8_1 : w3.cell? ⟨gb295, 1, none⟩ = some (.int .i64 a0_1) := (blk_cell BK295.out 1).trans rfl
        have hcz8_2 : w3.cell? ⟨gb295, 2, none⟩ = some (.int .i64 a0_2) := (blk_cell BK295.out 2).trans rfl
        have hfz8_0 := blk_frozen BK295.out 0
        have hfz8_1 := blk_frozen BK295.out 1
        have hfz8_2 := blk_frozen BK295.out 2
        go_wp2
        go_meet
        case rel => exact ⟨_, (decide (a0_2 > 4611686018427387903)), (by first | rfl | (simp; done) | (simp [*]; done)), H', ⟨by first | omega | exact Nat.le_refl _⟩, ⟨by (with_reducible repeat (first | refine blk_drewN ?_ _ | refine blk_drew ?_ | refine blk_alloc ?_ _)); exact BK295.out⟩, ⟨by repeat (first | (with_reducible first | exact HB.out | apply below_alloc | apply pw_below_drewN | apply below_drew1 | refine below_set ?_ GE295.out) | exact HB.out)⟩⟩
  case rest =>
    clear HC2
    try clear c1
    try clear p2
    try clear c4
    try clear c4b0
    try clear c6
    try clear c6b0
    try clear hcz5_0
    try clear hcz5_1
    try clear hcz5_2
    try clear hcz7_0
    try clear hcz7_1
    try clear hcz7_2
    try clear hcz8_0
    try clear hcz8_1
    try clear hcz8_2
    try clear hfz5_0
    try clear hfz5_1
    try clear hfz5_2
    try clear hfz7_0
    try clear hfz7_1
    try clear hfz7_2
    try clear hfz8_0
    try clear hfz8_1
    try clear hfz8_2
    obtain ⟨kq, x15_1, rfl, HA, HJ1, BK295, HB⟩ := hcut
    cases kq with
    | zero => exact absurd HA.out (by simp [spenceref04_RightSpec.j0])
    | succ kj1 =>
      have H := HA.out
      clear HA
      simp only [spenceref04_RightSpec.j0] at H
      by_cases c9 : x15_1 = true
      · subst c9
        have H1 : (some false) = some r := by rw [if_pos rfl] at H; exact H
        clear H
        have H := H1
        clear H1
        obtain rfl := Option.some.inj H
        go_wp2
        go_ret
        exact ⟨by first | rfl | exact ne_empty _ | exact eq_empty _ | (simp [errW_none, errW_some] <;> rfl) | (simp [*, errW_none, errW_some] <;> rfl), by repeat (first | (with_reducible first | exact HB.out | apply below_alloc | apply pw_below_drewN | apply below_drew1 | refine below_set ?_ GE295.out) | exact HB.out)⟩
      · replace c9 := Bool.eq_false_iff.mpr c9
        subst c9
        have H1 : (if a0_0 = 2 then (some (decide (a0_2 ≥ a0_1))) else (if a0_0 = 1 then (some (a0_2 == 0)) else (if a0_0 = 3 then (some (a0_2 == 0)) else (some false)))) = some r := by rw [if_neg (show ¬ (false = true) by decide)] at H; exact H
        clear H
        have H := H1
        clear H1
        by_cases c10 : a0_0 = 2
        · rw [if_pos c10] at H
          have c10b0 : (a0_0 == 2) = true := beq_iff_eq.mpr c10
          have c10b1 : (a0_0 != 2) = false := bne_eq_false_iff_eq.mpr c10
          clear c10
          obtain rfl := Option.some.inj H
          have hcz11_0 : wc.cell? ⟨gb295, 0, none⟩ = some (.int .i64 a0_0) := (blk_cell BK295.out 0).trans rfl
          have hcz11_1 : wc.cell? ⟨gb295, 1, none⟩ = some (.int .i64 a0_1) := (blk_cell BK295.out 1).trans rfl
          have hcz11_2 : wc.cell? ⟨gb295, 2, none⟩ = some (.int .i64 a0_2) := (blk_cell BK295.out 2).trans rfl
          have hfz11_0 := blk_frozen BK295.out 0
          have hfz11_1 := blk_frozen BK295.out 1
          have hfz11_2 := blk_frozen BK295.out 2
          go_wp2
          go_ret
          exact ⟨by first | rfl | exact ne_empty _ | exact eq_empty _ | (simp [errW_none, errW_some] <;> rfl) | (simp [*, errW_none, errW_some] <;> rfl), by repeat (first | (with_reducible first | exact HB.out | apply below_alloc | apply pw_below_drewN | apply below_drew1 | refine below_set ?_ GE295.out) | exact HB.out)⟩
        · rw [if_neg c10] at H
          have c10b0 : (a0_0 == 2) = false := beq_eq_false_iff_ne.mpr c10
          have c10b1 : (a0_0 != 2) = true := bne_iff_ne.mpr c10
          by_cases c12 : a0_0 = 1
          · rw [if_pos c12] at H
            have c12b0 : (a0_0 == 1) = true := beq_iff_eq.mpr c12
            have c12b1 : (a0_0 != 1) = false := bne_eq_false_iff_eq.mpr c12
            clear c12
            obtain rfl := Option.some.inj H
            have hcz13_0 : wc.cell? ⟨gb295, 0, none⟩ = some (.int .i64 a0_0) := (blk_cell BK295.out 0).trans rfl
            have hcz13_1 : wc.cell? ⟨gb295, 1, none⟩ = some (.int .i64 a0_1) := (blk_cell BK295.out 1).trans rfl
            have hcz13_2 : wc.cell? ⟨gb295, 2, none⟩ = some (.int .i64 a0_2) := (blk_cell BK295.out 2).trans rfl
            have hfz13_0 := blk_frozen BK295.out 0
            have hfz13_1 := blk_frozen BK295.out 1
            have hfz13_2 := blk_frozen BK295.out 2
            go_wp2
            go_ret
            exact ⟨by first | rfl | exact ne_empty _ | exact eq_empty _ | (simp [errW_none, errW_some] <;> rfl) | (simp [*, errW_none, errW_some] <;> rfl), by repeat (first | (with_reducible first | exact HB.out | apply below_alloc | apply pw_below_drewN | apply below_drew1 | refine below_set ?_ GE295.out) | exact HB.out)⟩
          · rw [if_neg c12] at H
            have c12b0 : (a0_0 == 1) = false := beq_eq_false_iff_ne.mpr c12
            have c12b1 : (a0_0 != 1) = true := bne_iff_ne.mpr c12
            by_cases c14 : a0_0 = 3
            · rw [if_pos c14] at H
              have c14b0 : (a0_0 == 3) = true := beq_iff_eq.mpr c14
              have c14b1 : (a0_0 != 3) = false := bne_eq_false_iff_eq.mpr c14
              clear c14
              obtain rfl := Option.some.inj H
              have hcz15_0 : wc.cell? ⟨gb295, 0, none⟩ = some (.int .i64 a0_0) := (blk_cell BK295.out 0).trans rfl
              have hcz15_1 : wc.cell? ⟨gb295, 1, none⟩ = some (.int .i64 a0_1) := (blk_cell BK295.out 1).trans rfl
              have hcz15_2 : wc.cell? ⟨gb295, 2, none⟩ = some (.int .i64 a0_2) := (blk_cell BK295.out 2).trans rfl
              have hfz15_0 := blk_frozen BK295.out 0
              have hfz15_1 := blk_frozen BK295.out 1
              have hfz15_2 := blk_frozen BK295.out 2
              go_wp2
              go_ret
              exact ⟨by first | rfl | exact ne_empty _ | exact eq_empty _ | (simp [errW_none, errW_some] <;> rfl) | (simp [*, errW_none, errW_some] <;> rfl), by repeat (first | (with_reducible first | exact HB.out | apply below_alloc | apply pw_below_drewN | apply below_drew1 | refine below_set ?_ GE295.out) | exact HB.out)⟩
            · rw [if_neg c14] at H
              have c14b0 : (a0_0 == 3) = false := beq_eq_false_iff_ne.mpr c14
              have c14b1 : (a0_0 != 3) = true := bne_iff_ne.mpr c14
              obtain rfl := Option.some.inj H
              have hcz16_0 : wc.cell? ⟨gb295, 0, none⟩ = some (.int .i64 a0_0) := (blk_cell BK295.out 0).trans rfl
              have hcz16_1 : wc.cell? ⟨gb295, 1, none⟩ = some (.int .i64 a0_1) := (blk_cell BK295.out 1).trans rfl
              have hcz16_2 : wc.cell? ⟨gb295, 2, none⟩ = some (.int .i64 a0_2) := (blk_cell BK295.out 2).trans rfl
              have hfz16_0 := blk_frozen BK295.out 0
              have hfz16_1 := blk_frozen BK295.out 1
              have hfz16_2 := blk_frozen BK295.out 2
              go_wp2
              go_ret
              exact ⟨by first | rfl | exact ne_empty _ | exact eq_empty _ | (simp [errW_none, errW_some] <;> rfl) | (simp [*, errW_none, errW_some] <;> rfl), by repeat (first | (with_reducible first | exact HB.out | apply below_alloc | apply pw_below_drewN | apply below_drew1 | refine below_set ?_ GE295.out) | exact HB.out)⟩
end Go.Proofs.YtndghocppadimaaDoor.PAll
namespace Go.Proofs.YtndghocppadimaaDoor.PAll
open Go.RowKit Go.Proofs.YtndghocppadimaaDoor.Xw Go.Proofs.YtndghocppadimaaDoorW.PrintWords Go.Proofs.YtndghocppadimaaDoorW.PrintLast Go.Proofs.YtndghocppadimaaDoorW.PrintMore
attribute [local go_sem] max2_int min2_int max_two min_two max_three min_three max_four min_four   -- for this text's walks alone
set_option linter.unusedVariables false
set_option linter.unusedSimpArgs false
def slices_Reverse_byte_byte.l0 : Nat → List Int → Int → Int → Option (List Int)
  | 0, _, _, _ => none
  | k + 1, x0, x2, x3 => if x2 < x3 then (if 0 ≤ x3 then (if x3 < (x0.length : Int) then (if 0 ≤ x2 then (if x2 < (x0.length : Int) then (slices_Reverse_byte_byte.l0 k ((x0.set (x2 : Int).toNat (rd x0 x3)).set (x3 : Int).toNat (rd x0 x2)) (wrap64 (x2 + 1)) (wrap64 (x3 - 1))) else (none)) else (none)) else (none)) else (none)) else (some x0)
def slices_Reverse_byte_byte.f (k : Nat) (l0 : List Int) : Option (List Int) := slices_Reverse_byte_byte.l0 k l0 0 (wrap64 ((l0.length : Int) - 1))
theorem slices_Reverse_byte_byte.mono_l : ∀ k, (∀ y0 y1 y2, LeO (slices_Reverse_byte_byte.l0 k y0 y1 y2) (slices_Reverse_byte_byte.l0 (k + 1) y0 y1 y2))
  | 0 => fun _ _ _ r h => by simp [slices_Reverse_byte_byte.l0] at h
  | k + 1 => by
    have ih0 := slices_Reverse_byte_byte.mono_l k
    · intro y0 y1 y2
      unfold slices_Reverse_byte_byte.l0
      repeat' first
      | (with_reducible exact ih0 _ _ _)
      | (with_reducible exact LeO.refl _)
      | (with_reducible exact LeO.none _)
      | (with_reducible refine LeO.ite ?_ ?_)
      | (with_reducible refine LeO.bind ?_ (fun _ => ?_))
      | exact ih0 _ _ _
      | exact LeO.none _
      | refine LeO.ite ?_ ?_
      | refine LeO.bind ?_ (fun _ => ?_)
theorem slices_Reverse_byte_byte.mono : ∀ a0 k, LeO (slices_Reverse_byte_byte.f k a0) (slices_Reverse_byte_byte.f (k + 1) a0) := by
  intro a0 k
  have ih0 := slices_Reverse_byte_byte.mono_l k
  unfold slices_Reverse_byte_byte.f
  repeat' first
      | (with_reducible exact ih0 _ _ _)
      | (with_reducible exact LeO.refl _)
      | (with_reducible exact LeO.none _)
      | (with_reducible refine LeO.ite ?_ ?_)
      | (with_reducible refine LeO.bind ?_ (fun _ => ?_))
      | exact ih0 _ _ _
      | exact LeO.none _
      | refine LeO.ite ?_ ?_
      | refine LeO.bind ?_ (fun _ => ?_)
def slices_Reverse_byte_byte.T3 : Bool × List (List Nat × List Nat) := (true, [([], []), ([], []), ([], []), ([], []), ([], []), ([], []), ([4, 5], [4, 5]), ([6], [6]), ([], []), ([], []), ([8, 9], [8, 9]), ([10], [10]), ([0, 1, 0, 1, 4, 5, 6, 7, 11], [0, 1]), ([12, 7, 0, 1, 4, 5, 6, 7, 11], [7, 12]), ([2, 3, 0, 1, 2, 3, 4, 5, 6, 7, 8, 9, 10, 11, 12, 13], [2, 3]), ([14, 11, 13, 0, 1, 2, 3, 4, 5, 6, 7, 8, 9, 10, 11, 12, 13], [11, 14])])
def slices_Reverse_byte_byte.B3 : List Nat := [0, 0, 0, 0, 0, 0, 48, 112, 0, 0, 768, 1792, 4083, 8179, 16383, 32767]
theorem slices_Reverse_byte_byte.tab3 : rtab .any (opsOf Tryd.f50 3) = slices_Reverse_byte_byte.T3 := by kernel_rfl
theorem slices_Reverse_byte_byte.bits3 : waitsOk slices_Reverse_byte_byte.T3.2 slices_Reverse_byte_byte.B3 = true := by kernel_rfl
set_option maxHeartbeats 8000000 in
set_option maxRecDepth 100000 in
theorem slices_Reverse_byte_byte.calls (k : Nat) (P0_ : Nat → Prop) (u9000_ : Value) (l0 : List Int) (r : List Int) (w0 w : World) (hB : Below w0.heap.size w0 w) (ho0 : Kd.R (Kd.int .u8) 5 w w0.heap.size P0_ u9000_ l0) (h : slices_Reverse_byte_byte.f k l0 = some r) :
    Calls Tryd.prog 50 #[u9000_] w fun e w' => e = .returned (.tuple #[]) ∧ Kd.R (Kd.int .u8) 5 w' w0.heap.size (fun k_ => (P0_ k_ ∨ w.heap.size ≤ k_)) u9000_ r ∧ Below w0.heap.size w0 w' ∧ Kept w w' (fun k_ => P0_ k_) := by
  have HO0 := Aside0.mk (show Kd.R (Kd.int .u8) 5 w w0.heap.size (fun k_ => (P0_ k_ ∨ w.heap.size ≤ k_)) u9000_ l0 from Kd.R_mono ho0 (fun k_ hk => (.inl hk)))
  have HK := Aside0.mk (Kept.refl w (fun k_ => P0_ k_))
  have HW0 := Aside0.mk hB.size
  have HB := Aside0.mk hB
  clear hB
  have H : (slices_Reverse_byte_byte.l0 k l0 0 (wrap64 ((l0.length : Int) - 1))) = some r := h
  clear h
  have H' := Aside0.mk H
  clear H
  obtain ⟨Ao2, co2, eo2⟩ := Kd.R_slice HO0.out
  subst eo2
  go_enter Tryd.func50, Tryd.ntmps50
  go_wp2
  go_loopg [2, 3] k (fun kq v2 v3 w' => ∃ (x0_1 : List Int) (x2_1 : Int) (x3_1 : Int), v2 = .int .i64 x2_1 ∧ v3 = .int .i64 x3_1 ∧ Aside0 (slices_Reverse_byte_byte.l0 kq x0_1 x2_1 x3_1 = some r) ∧ Aside0 (kq ≤ k) ∧ Aside0 (Kd.R (Kd.int .u8) 5 w' w0.heap.size (fun k_ => (P0_ k_ ∨ w.heap.size ≤ k_)) (.slice Ao2 l0.length co2) x0_1) ∧ Aside0 (Kept w w' (fun k_ => P0_ k_)) ∧ Aside0 (Below w0.heap.size w0 w'))
  case atStart => exact ⟨(l0), (0), (wrap64 ((l0.length : Int) - 1)), (by first | rfl | (simp; done) | (simp [*]; done)), (by first | rfl | (simp; done) | (simp [*]; done)), H', ⟨Nat.le_refl _⟩, ⟨by (with_reducible repeat (first | apply Kd.R_alloc | apply Kd.R_drewN | apply Kd.R_drew)); exact HO0.out⟩, ⟨by repeat (first | (with_reducible first | exact HK.out | apply Kept.alloc | apply Kept.drewN | apply Kept.drew) | exact HK.out)⟩, ⟨by repeat (first | (with_reducible first | exact HB.out | apply below_alloc | apply pw_below_drewN | apply below_drew1) | exact HB.out)⟩⟩
  case round =>
    clear H'
    try clear p2
    obtain ⟨x0_1, x2_1, x3_1, rfl, rfl, HA, HK1, HO_0, HK, HB⟩ := hrel
    have hl0_1 := (Kd.R_reads' HO_0.out).1
    rw [hl0_1] at HO_0
    (try simp only [hl0_1])
    cases gk with
    | zero => exact absurd HA.out (by simp [slices_Reverse_byte_byte.l0])
    | succ k1 =>
      have H := HA.out
      clear HA
      simp only [slices_Reverse_byte_byte.l0] at H
      by_cases c3 : x2_1 < x3_1
      · rw [if_pos c3] at H
        have c3b0 : decide (x2_1 < x3_1) = true := decide_eq_true c3
        clear c3
        by_cases c4 : 0 ≤ x3_1
        · rw [if_pos c4] at H
          have c4b0 : decide (0 ≤ x3_1) = true := decide_eq_true c4
          clear c4
          by_cases c5 : x3_1 < (x0_1.length : Int)
          · rw [if_pos c5] at H
            have c5b0 : decide (x3_1 < (x0_1.length : Int)) = true := decide_eq_true c5
            clear c5
            by_cases c6 : 0 ≤ x2_1
            · rw [if_pos c6] at H
              have c6b0 : decide (0 ≤ x2_1) = true := decide_eq_true c6
              clear c6
              by_cases c7 : x2_1 < (x0_1.length : Int)
              · rw [if_pos c7] at H
                have c7b0 : decide (x2_1 < (x0_1.length : Int)) = true := decide_eq_true c7
                clear c7
                obtain ⟨y298, hy298⟩ : ∃ y_ : List Int, y_ = (x0_1.set (x2_1 : Int).toNat (rd x0_1 x3_1)) := ⟨_, rfl⟩
                replace H : (slices_Reverse_byte_byte.l0 k1 (y298.set (x3_1 : Int).toNat (rd x0_1 x2_1)) (wrap64 (x2_1 + 1)) (wrap64 (x3_1 - 1))) = some r := by first | (rw [hy298]; with_reducible exact H) | (have H2_ := (Option.bind_some _ _).symm.trans H; rw [hy298]; with_reducible exact H2_) | (have H2_ := (Option.bind_some _ _).symm.trans H; with_reducible exact H2_) | with_reducible exact H | (rw [hy298]; exact H) | exact H
                have Ny298 := Aside0.mk hy298
                clear hy298
                obtain ⟨y299, hy299⟩ : ∃ y_ : List Int, y_ = (y298.set (x3_1 : Int).toNat (rd x0_1 x2_1)) := ⟨_, rfl⟩
                replace H : (slices_Reverse_byte_byte.l0 k1 y299 (wrap64 (x2_1 + 1)) (wrap64 (x3_1 - 1))) = some r := by first | (rw [hy299]; with_reducible exact H) | (have H2_ := (Option.bind_some _ _).symm.trans H; rw [hy299]; with_reducible exact H2_) | (have H2_ := (Option.bind_some _ _).symm.trans H; with_reducible exact H2_) | with_reducible exact H | (rw [hy299]; exact H) | exact H
                have Ny299 := Aside0.mk hy299
                clear hy299
                have H' := Aside0.mk H
                clear H
                try go_wp2
                have n0_ := Aside0.mk (Kd.R_drew HO_0.out)
                have n1_ := Aside0.mk (Kept.drew HK.out)
                have n2_ := Aside0.mk (below_drew1 HB.out)
                clear HO_0
                clear HK
                clear HB
                have HO_0 := n0_
                have HK := n1_
                have HB := n2_
                clear n0_ n1_ n2_
                have p296 : 0 ≤ (x3_1 : Int) := of_decide_eq_true (by first | (with_reducible assumption) | assumption)
                have q296 : x3_1 < (x0_1.length : Int) := of_decide_eq_true (by first | (with_reducible assumption) | assumption)
                obtain ⟨ad296, e296, hx296_0⟩ := Kd.at_int (Kd.R_reads' HO_0.out).2.2 x3_1 p296 q296
                cases e296
                replace p296 := eq_true p296
                replace q296 := eq_true q296
                have p297 : 0 ≤ (x2_1 : Int) := of_decide_eq_true (by first | (with_reducible assumption) | assumption)
                have q297 : x2_1 < (x0_1.length : Int) := of_decide_eq_true (by first | (with_reducible assumption) | assumption)
                obtain ⟨ad297, e297, hx297_0⟩ := Kd.at_int (Kd.R_reads' HO_0.out).2.2 x2_1 p297 q297
                obtain rfl : ad296 = ad297 := (by injection e297)
                replace p297 := eq_true p297
                replace q297 := eq_true q297
                have p8 : 0 ≤ (x2_1 : Int) := of_decide_eq_true (by first | (with_reducible assumption) | assumption)
                have q8 : (x2_1 : Int) < ((x0_1.length : Int) : Int) := of_decide_eq_true (by first | (with_reducible assumption) | assumption)
                obtain ⟨go8, co8, eo8, gb8, gl8, cl8, HG8⟩ := Kd.R_form HO_0.out (by omega)
                (first | cases eo8 | (injection eo8 with ea_ en_ ec_; (first | subst ea_ | (injection ea_ with ea_; subst ea_)); subst ec_; clear en_))
                have GB8 := Aside0.mk gb8
                have GG8 := Aside0.mk HG8
                clear gb8 gl8 HG8
                have HMgo8 := Aside0.mk (show (P0_ go8 ∨ w.heap.size ≤ go8) from (HO_0.out.1 _ rfl))
                (first | simp only [add_plain] at hx296_0 | skip)
                (first | simp only [add_plain] at hx297_0 | skip)
                obtain ⟨hx8_0, hf8_0⟩ := Kd.R_celln 0 HO_0.out (x2_1 : Int) p8 q8
                replace p8 := eq_true p8
                replace q8 := eq_true q8
                have HP11 := Kd.R_putn HO_0.out (x2_1 : Int) (rd x0_1 x3_1)
                rw [← Ny298.out] at HP11
                have HQ11 := Aside0.mk HP11
                clear HP11
                have p9 : 0 ≤ (x3_1 : Int) := of_decide_eq_true (by first | (with_reducible assumption) | assumption)
                have q9 : (x3_1 : Int) < ((x0_1.length : Int) : Int) := of_decide_eq_true (by first | (with_reducible assumption) | assumption)
                obtain ⟨hx9_0, hf9_0⟩ := Kd.R_celln 0 HQ11.out (x3_1 : Int) p9 q9
                replace p9 := eq_true p9
                replace q9 := eq_true q9
                have HP12 := Kd.R_putn HQ11.out (x3_1 : Int) (rd x0_1 x2_1)
                rw [← Ny299.out] at HP12
                have HQ12 := Aside0.mk HP12
                clear HP12
                refine start_ (n := 16) (S := fun w' => w'.cell? ⟨go8, (x3_1).toNat, none⟩ = some (.int .u8 (rd x0_1 x3_1)) ∧ w'.cell? ⟨go8, (x2_1).toNat, none⟩ = some (.int .u8 (rd x0_1 x2_1))) (ds := [13, 15]) #[false, false, false, false, false, false, false, false, false, false, false, false, false, false, false, false] (by kernel_rfl) rfl rfl ⟨hx296_0, hx297_0⟩ (fun hHeld => ?_); refine with_tabW slices_Reverse_byte_byte.tab3 slices_Reverse_byte_byte.bits3 (fun HT_ HW_ => ?_)
                generalize wr.drew = w10 at HO_0 HK HB GG8 HQ11 HQ12 hf8_0 hf9_0 hx296_0 hx297_0 hx8_0 hx9_0 hHeld ⊢
                refine pure_ (i := 0) (N := some 14) (v := ?_) (a' := ?_) #[true, false, false, false, false, false, false, false, false, false, false, false, false, false, false, false] rfl rfl (any_of HT_.out (by kernel_rfl)) (fun _ _ _ h => h) (Or.inl ⟨by rfl, ?_⟩) ?_ ?_
                rotate_left
                · intro w'
                  go_simp
                  with_reducible rfl
                rotate_left
                · simp only [Act.put, List.setIfInBounds_toArray, List.set_cons_zero, List.set_cons_succ, i64_w, i32_w]
                  rfl
                refine pure_ (i := 1) (N := some 15) (v := ?_) (a' := ?_) #[true, true, false, false, false, false, false, false, false, false, false, false, false, false, false, false] rfl rfl (any_of HT_.out (by kernel_rfl)) (fun _ _ _ h => h) (Or.inl ⟨by rfl, ?_⟩) ?_ ?_
                rotate_left
                · intro w'
                  go_simp
                  with_reducible rfl
                rotate_left
                · simp only [Act.put, List.setIfInBounds_toArray, List.set_cons_zero, List.set_cons_succ, i64_w, i32_w]
                  rfl
                refine pure_ (i := 2) (N := some 16) (v := ?_) (a' := ?_) #[true, true, true, false, false, false, false, false, false, false, false, false, false, false, false, false] rfl rfl (any_of HT_.out (by kernel_rfl)) (fun _ _ _ h => h) (Or.inl ⟨by rfl, ?_⟩) ?_ ?_
                rotate_left
                · intro w'
                  go_simp
                  with_reducible rfl
                rotate_left
                · simp only [Act.put, List.setIfInBounds_toArray, List.set_cons_zero, List.set_cons_succ, i64_w, i32_w]
                  rfl
                refine pure_ (i := 3) (N := some 17) (v := ?_) (a' := ?_) #[true, true, true, true, false, false, false, false, false, false, false, false, false, false, false, false] rfl rfl (any_of HT_.out (by kernel_rfl)) (fun _ _ _ h => h) (Or.inl ⟨by rfl, ?_⟩) ?_ ?_
                rotate_left
                · intro w'
                  go_simp
                  with_reducible rfl
                rotate_left
                · simp only [Act.put, List.setIfInBounds_toArray, List.set_cons_zero, List.set_cons_succ, i64_w, i32_w]
                  rfl
                refine pure_ (i := 4) (N := some 18) (v := ?_) (a' := ?_) #[true, true, true, true, true, false, false, false, false, false, false, false, false, false, false, false] rfl rfl (any_of HT_.out (by kernel_rfl)) (fun _ _ _ h => h) (Or.inl ⟨by rfl, ?_⟩) ?_ ?_
                rotate_left
                · intro w'
                  go_simp
                  with_reducible rfl
                rotate_left
                · simp only [Act.put, List.setIfInBounds_toArray, List.set_cons_zero, List.set_cons_succ, i64_w, i32_w]
                  rfl
                refine pure_ (i := 5) (N := some 19) (v := ?_) (a' := ?_) #[true, true, true, true, true, true, false, false, false, false, false, false, false, false, false, false] rfl rfl (any_of HT_.out (by kernel_rfl)) (fun _ _ _ h => h) (Or.inl ⟨by rfl, ?_⟩) ?_ ?_
                rotate_left
                · intro w'
                  go_simp
                  with_reducible rfl
                rotate_left
                · simp only [Act.put, List.setIfInBounds_toArray, List.set_cons_zero, List.set_cons_succ, i64_w, i32_w]
                  rfl
                refine pure_ (i := 6) (N := some 20) (v := ?_) (a' := ?_) #[true, true, true, true, true, true, true, false, false, false, false, false, false, false, false, false] rfl rfl (any_of HT_.out (by kernel_rfl)) (fun _ _ _ h => h) (Or.inl ⟨by rfl, ?_⟩) ?_ ?_
                rotate_left
                · intro w'
                  go_simp
                  with_reducible rfl
                rotate_left
                · simp only [Act.put, List.setIfInBounds_toArray, List.set_cons_zero, List.set_cons_succ, i64_w, i32_w]
                  rfl
                refine pure_ (i := 8) (N := some 22) (v := ?_) (a' := ?_) #[true, true, true, true, true, true, true, false, true, false, false, false, false, false, false, false] rfl rfl (any_of HT_.out (by kernel_rfl)) (fun _ _ _ h => h) (Or.inl ⟨by rfl, ?_⟩) ?_ ?_
                rotate_left
                · intro w'
                  go_simp
                  with_reducible rfl
                rotate_left
                · simp only [Act.put, List.setIfInBounds_toArray, List.set_cons_zero, List.set_cons_succ, i64_w, i32_w]
                  rfl
                refine pure_ (i := 9) (N := some 23) (v := ?_) (a' := ?_) #[true, true, true, true, true, true, true, false, true, true, false, false, false, false, false, false] rfl rfl (any_of HT_.out (by kernel_rfl)) (fun _ _ _ h => h) (Or.inl ⟨by rfl, ?_⟩) ?_ ?_
                rotate_left
                · intro w'
                  go_simp
                  with_reducible rfl
                rotate_left
                · simp only [Act.put, List.setIfInBounds_toArray, List.set_cons_zero, List.set_cons_succ, i64_w, i32_w]
                  rfl
                refine pure_ (i := 10) (N := some 24) (v := ?_) (a' := ?_) #[true, true, true, true, true, true, true, false, true, true, true, false, false, false, false, false] rfl rfl (any_of HT_.out (by kernel_rfl)) (fun _ _ _ h => h) (Or.inl ⟨by rfl, ?_⟩) ?_ ?_
                rotate_left
                · intro w'
                  go_simp
                  with_reducible rfl
                rotate_left
                · simp only [Act.put, List.setIfInBounds_toArray, List.set_cons_zero, List.set_cons_succ, i64_w, i32_w]
                  rfl
                refine take_ (i := 7) (N := some 21) (v := ?_) (a' := ?_) #[true, true, true, true, true, true, true, true, true, true, true, false, false, false, false, false] rfl rfl (take_ofW HT_.out HW_.out (by kernel_rfl)) (fun _ _ _ h => h) (Or.inl ⟨by rfl, ?_⟩) hHeld ?_ ?_
                rotate_left
                · rintro w' ⟨s0, s1⟩
                  go_simp
                  with_reducible rfl
                rotate_left
                · simp only [Act.put, List.setIfInBounds_toArray, List.set_cons_zero, List.set_cons_succ, i64_w, i32_w]
                  rfl
                refine take_ (i := 11) (N := some 25) (v := ?_) (a' := ?_) #[true, true, true, true, true, true, true, true, true, true, true, true, false, false, false, false] rfl rfl (take_ofW HT_.out HW_.out (by kernel_rfl)) (fun _ _ _ h => h) (Or.inl ⟨by rfl, ?_⟩) hHeld ?_ ?_
                rotate_left
                · rintro w' ⟨s0, s1⟩
                  go_simp
                  with_reducible rfl
                rotate_left
                · simp only [Act.put, List.setIfInBounds_toArray, List.set_cons_zero, List.set_cons_succ, i64_w, i32_w]
                  rfl
                refine pure_ (i := 12) (N := some 26) (v := ?_) (a' := ?_) #[true, true, true, true, true, true, true, true, true, true, true, true, true, false, false, false] rfl rfl (any_of HT_.out (by kernel_rfl)) (fun _ _ _ h => h) (Or.inl ⟨by rfl, ?_⟩) ?_ ?_
                rotate_left
                · intro w'
                  go_simp
                  with_reducible rfl
                rotate_left
                · simp only [Act.put, List.setIfInBounds_toArray, List.set_cons_zero, List.set_cons_succ, i64_w, i32_w]
                  rfl
                refine last_ (i := 13) (N := none) #[true, true, true, true, true, true, true, true, true, true, true, true, true, true, false, false] rfl rfl (one_of HT_.out (by kernel_rfl)) (by decide) (fun K hK => ?_)
                refine skip_ (w1 := ?_) (by rfl) rfl ?_ ?_
                rotate_left
                · go_simp
                  rfl
                refine hK.out _ _ ?_
                clear hK K
                refine pure_ (i := 14) (N := some 27) (v := ?_) (a' := ?_) #[true, true, true, true, true, true, true, true, true, true, true, true, true, true, true, false] rfl rfl (any_of HT_.out (by kernel_rfl)) (fun _ _ _ h => h) (Or.inl ⟨by rfl, ?_⟩) ?_ ?_
                rotate_left
                · intro w'
                  go_simp
                  with_reducible rfl
                rotate_left
                · simp only [Act.put, List.setIfInBounds_toArray, List.set_cons_zero, List.set_cons_succ, i64_w, i32_w]
                  rfl
                refine last_ (i := 15) (N := none) #[true, true, true, true, true, true, true, true, true, true, true, true, true, true, true, true] rfl rfl (one_of HT_.out (by kernel_rfl)) (by decide) (fun K hK => ?_)
                refine skip_ (w1 := ?_) (by rfl) rfl ?_ ?_
                rotate_left
                · go_simp
                  rfl
                refine hK.out _ _ ?_
                clear hK K
                refine done_ (done_of HT_.out (by kernel_rfl)) ?_
                try go_wp2
                (try simp only [← hl0_1])
                go_roundg k1
                case measure => have := HK1.out; omega
                case rel => exact ⟨(y299), (wrap64 (x2_1 + 1)), (wrap64 (x3_1 - 1)), (by first | rfl | (simp; done) | (simp [*]; done)), (by first | rfl | (simp; done) | (simp [*]; done)), H', ⟨by have := HK1.out; omega⟩, ⟨by (try simp only [hl0_1]); (with_reducible repeat (first | apply Kd.R_alloc | apply Kd.R_drewN | apply Kd.R_drew)); exact HQ12.out⟩, ⟨by repeat (first | (with_reducible first | exact HK.out | apply Kept.alloc | apply Kept.drewN | apply Kept.drew | refine Kept.setCell ?_ HMgo8.out _ | refine Kept.setCell ?_ HMgo8.out _) | exact HK.out)⟩, ⟨by repeat (first | (with_reducible first | exact HB.out | apply below_alloc | apply pw_below_drewN | apply below_drew1 | refine below_set ?_ GB8.out | refine below_set ?_ GB8.out) | exact HB.out)⟩⟩
              · rw [if_neg c7] at H
                exact absurd H (by simp)
            · rw [if_neg c6] at H
              exact absurd H (by simp)
          · rw [if_neg c5] at H
            exact absurd H (by simp)
        · rw [if_neg c4] at H
          exact absurd H (by simp)
      · rw [if_neg c3] at H
        have c3b0 : decide (x2_1 < x3_1) = false := decide_eq_false c3
        clear c3
        obtain rfl := Option.some.inj H
        go_wp2
        first | go_end0 | ((try simp only [Exit.inBlock, Exit.then]); refine bodyPost_ret (results_none rfl _ _ _) rfl ?_)
        exact ⟨by first | rfl | exact ne_empty _ | exact eq_empty _ | (simp [errW_none, errW_some] <;> rfl) | (simp [*, errW_none, errW_some] <;> rfl), (by first | exact (by (with_reducible repeat (first | apply Kd.R_alloc | apply Kd.R_drewN | apply Kd.R_drew)); exact HO_0.out) | (simp only [hl0_1]; exact (by (with_reducible repeat (first | apply Kd.R_alloc | apply Kd.R_drewN | apply Kd.R_drew)); exact HO_0.out))), by repeat (first | (with_reducible first | exact HB.out | apply below_alloc | apply pw_below_drewN | apply below_drew1) | exact HB.out), by repeat (first | (with_reducible first | exact HK.out | apply Kept.alloc | apply Kept.drewN | apply Kept.drew) | exact HK.out)⟩
mutual
def nums_Print.j0 : Nat → Int → ByteArray → Option (ByteArray)
  | 0, _, _ => none
  | k + 1, x3, x4 => nums_Print.l0 k x3 x4 ([] : List Int)
def nums_Print.l0 : Nat → Int → ByteArray → List Int → Option (ByteArray)
  | 0, _, _, _ => none
  | k + 1, x3, x4, x5 => if x5.length < 140737488355328 then ((some (x5 ++ [(IntKind.u64.wrap (48 + (Int.tmod x3 10))) % 256] : List Int)).bind fun y300 => (if (IntKind.u64.wrap (Int.tdiv x3 10)) = 0 then ((slices_Reverse_byte_byte.f k y300).bind fun t303 => (if x4.size + ((strOfNums t303).size) ≤ 9223372036854775807 then (some (x4 ++ (strOfNums t303))) else (none))) else (nums_Print.l0 k (IntKind.u64.wrap (Int.tdiv x3 10)) x4 y300))) else (none)
end
def nums_Print.f (k : Nat) (a0 : Int) : Option (ByteArray) := if a0 < 0 then (nums_Print.j0 k (IntKind.u64.wrap (-(IntKind.u64.wrap (a0)))) (⟨#[45]⟩ : ByteArray)) else (nums_Print.j0 k (IntKind.u64.wrap (a0)) (⟨#[]⟩ : ByteArray))
theorem nums_Print.mono_l : ∀ k, (∀ y0 y1, LeO (nums_Print.j0 k y0 y1) (nums_Print.j0 (k + 1) y0 y1)) ∧ (∀ y0 y1 y2, LeO (nums_Print.l0 k y0 y1 y2) (nums_Print.l0 (k + 1) y0 y1 y2))
  | 0 => ⟨fun _ _ r h => by simp [nums_Print.j0] at h, fun _ _ _ r h => by simp [nums_Print.l0] at h⟩
  | k + 1 => by
    obtain ⟨ih0, ih1⟩ := nums_Print.mono_l k
    refine ⟨?_, ?_⟩
    · intro y0 y1
      unfold nums_Print.j0
      repeat' first
      | (with_reducible exact ih0 _ _)
      | (with_reducible exact ih1 _ _ _)
      | (with_reducible exact slices_Reverse_byte_byte.mono _ _)
      | (with_reducible exact LeO.refl _)
      | (with_reducible exact LeO.none _)
      | (with_reducible refine LeO.ite ?_ ?_)
      | (with_reducible refine LeO.bind ?_ (fun _ => ?_))
      | exact ih0 _ _
      | exact ih1 _ _ _
      | exact slices_Reverse_byte_byte.mono _ _
      | exact LeO.none _
      | refine LeO.ite ?_ ?_
      | refine LeO.bind ?_ (fun _ => ?_)
    · intro y0 y1 y2
      unfold nums_Print.l0
      repeat' first
      | (with_reducible exact ih0 _ _)
      | (with_reducible exact ih1 _ _ _)
      | (with_reducible exact slices_Reverse_byte_byte.mono _ _)
      | (with_reducible exact LeO.refl _)
      | (with_reducible exact LeO.none _)
      | (with_reducible refine LeO.ite ?_ ?_)
      | (with_reducible refine LeO.bind ?_ (fun _ => ?_))
      | exact ih0 _ _
      | exact ih1 _ _ _
      | exact slices_Reverse_byte_byte.mono _ _
      | exact LeO.none _
      | refine LeO.ite ?_ ?_
      | refine LeO.bind ?_ (fun _ => ?_)
theorem nums_Print.mono : ∀ a0 k, LeO (nums_Print.f k a0) (nums_Print.f (k + 1) a0) := by
  intro a0 k
  obtain ⟨ih0, ih1⟩ := nums_Print.mono_l k
  unfold nums_Print.f
  repeat' first
      | (with_reducible exact ih0 _ _)
      | (with_reducible exact ih1 _ _ _)
      | (with_reducible exact slices_Reverse_byte_byte.mono _ _)
      | (with_reducible exact LeO.refl _)
      | (with_reducible exact LeO.none _)
      | (with_reducible refine LeO.ite ?_ ?_)
      | (with_reducible refine LeO.bind ?_ (fun _ => ?_))
      | exact ih0 _ _
      | exact ih1 _ _ _
      | exact slices_Reverse_byte_byte.mono _ _
      | exact LeO.none _
      | refine LeO.ite ?_ ?_
      | refine LeO.bind ?_ (fun _ => ?_)
set_option maxHeartbeats 8000000 in
set_option maxRecDepth 100000 in
theorem nums_Print.calls (k : Nat) (a0 : Int) (r : ByteArray) (w : World) (h : nums_Print.f k a0 = some r) :
    Calls Tryd.prog 40 #[.int .i64 a0] w fun e w' => e = .returned (.string r) ∧ Below w.heap.size w w' := by
  have HB := Aside0.mk (Below.refl w.heap.size w)
  have H : (if a0 < 0 then (nums_Print.j0 k (IntKind.u64.wrap (-(IntKind.u64.wrap (a0)))) (⟨#[45]⟩ : ByteArray)) else (nums_Print.j0 k (IntKind.u64.wrap (a0)) (⟨#[]⟩ : ByteArray))) = some r := h
  clear h
  have HC2 := Aside0.mk H
  clear H
  go_enter Tryd.func40, Tryd.ntmps40
  go_upto_if 9 with (fail)
  go_cut [3, 4] (fun v3 v4 wc => ∃ (kq : Nat) (x3_1 : Int) (x4_1 : ByteArray), v3 = .int .u64 x3_1 ∧ v4 = .string x4_1 ∧ Aside0 (nums_Print.j0 kq x3_1 x4_1 = some r) ∧ Aside0 (kq ≤ k) ∧ Aside0 (Below w.heap.size w wc))
  case first =>
    have H := HC2.out
    clear HC2
    by_cases c3 : a0 < 0
    · rw [if_pos c3] at H
      have c3b0 : decide (a0 < 0) = true := decide_eq_true c3
      clear c3
      (first | rw [c3b0] | (simp only [i64_w, i32_w]; rw [c3b0]) | skip)
      have H' := Aside0.mk H
      clear H
      go_wp2
      go_meet
      case rel => exact ⟨_, (IntKind.u64.wrap (-(IntKind.u64.wrap (a0)))), ((⟨#[45]⟩ : ByteArray)), (by first | rfl | (simp; done) | (simp [*]; done)), (by first | rfl | (simp; done) | (simp [*]; done)), H', ⟨by first | omega | exact Nat.le_refl _⟩, ⟨by repeat (first | (with_reducible first | exact HB.out | apply below_alloc | apply pw_below_drewN | apply below_drew1) | exact HB.out)⟩⟩
    · rw [if_neg c3] at H
      have c3b0 : decide (a0 < 0) = false := decide_eq_false c3
      clear c3
      (first | rw [c3b0] | (simp only [i64_w, i32_w]; rw [c3b0]) | skip)
      have H' := Aside0.mk H
      clear H
      go_wp2
      go_meet
      case rel => exact ⟨_, (IntKind.u64.wrap (a0)), ((⟨#[]⟩ : ByteArray)), (by first | rfl | (simp; done) | (simp [*]; done)), (by first | rfl | (simp; done) | (simp [*]; done)), H', ⟨by first | omega | exact Nat.le_refl _⟩, ⟨by repeat (first | (with_reducible first | exact HB.out | apply below_alloc | apply pw_below_drewN | apply below_drew1) | exact HB.out)⟩⟩
  case rest =>
    clear HC2
    try clear p2
    try clear c3
    try clear c3b0
    obtain ⟨kq, x3_1, x4_1, rfl, rfl, HA, HJ1, HB⟩ := hcut
    cases kq with
    | zero => exact absurd HA.out (by simp [nums_Print.j0])
    | succ kj1 =>
      have H := HA.out
      clear HA
      simp only [nums_Print.j0] at H
      have H' := Aside0.mk H
      clear H
      go_wp2
      go_loopg [3, 5] kj1 (fun kq v3 v5 w' => ∃ (x3_2 : Int) (x5_2 : List Int), v3 = .int .u64 x3_2 ∧ Aside0 (nums_Print.l0 kq x3_2 x4_1 x5_2 = some r) ∧ Aside0 (kq ≤ kj1) ∧ Aside0 (Kd.R (Kd.int .u8) 5 w' w.heap.size (fun _ => True) v5 x5_2) ∧ Aside0 (Below w.heap.size w w'))
      case atStart => exact ⟨(x3_1), (([] : List Int)), (by first | rfl | (simp; done) | (simp [*]; done)), H', ⟨Nat.le_refl _⟩, ⟨by first | exact Kd.R_nil _ _ _ _ _ | exact Kd.N_nil _ _ _ _ _ | exact Kd.V_nil _ _ _ _ _ | exact Kd.Q_nil _ _ _ _ _ | exact Kd.S_nil _ _ _ _ _⟩, ⟨by repeat (first | (with_reducible first | exact HB.out | apply below_alloc | apply pw_below_drewN | apply below_drew1) | exact HB.out)⟩⟩
      case round =>
        clear H'
        try clear p2
        try clear c3
        try clear c3b0
        try clear p2
        obtain ⟨x3_2, x5_2, rfl, HA, HK2, HO_5, HB⟩ := hrel
        cases gk with
        | zero => exact absurd HA.out (by simp [nums_Print.l0])
        | succ k2 =>
          have H := HA.out
          clear HA
          simp only [nums_Print.l0] at H
          by_cases c4 : x5_2.length < 140737488355328
          · rw [if_pos c4] at H
            have LMc4 := Aside0.mk c4
            clear c4
            obtain ⟨y300, hy300⟩ : ∃ y_ : List Int, y_ = (x5_2 ++ [(IntKind.u64.wrap (48 + (Int.tmod x3_2 10))) % 256]) := ⟨_, rfl⟩
            replace H : (if (IntKind.u64.wrap (Int.tdiv x3_2 10)) = 0 then ((slices_Reverse_byte_byte.f k2 y300).bind fun t303 => (if x4_1.size + ((strOfNums t303).size) ≤ 9223372036854775807 then (some (x4_1 ++ (strOfNums t303))) else (none))) else (nums_Print.l0 k2 (IntKind.u64.wrap (Int.tdiv x3_2 10)) x4_1 y300)) = some r := by first | (rw [hy300]; with_reducible exact H) | (have H2_ := (Option.bind_some _ _).symm.trans H; rw [hy300]; with_reducible exact H2_) | (have H2_ := (Option.bind_some _ _).symm.trans H; with_reducible exact H2_) | with_reducible exact H | (rw [hy300]; exact H) | exact H
            have Ny300 := Aside0.mk hy300
            clear hy300
            by_cases c5 : (IntKind.u64.wrap (Int.tdiv x3_2 10)) = 0
            · rw [if_pos c5] at H
              have c5b0 : ((IntKind.u64.wrap (Int.tdiv x3_2 10)) == 0) = true := beq_iff_eq.mpr c5
              have c5b1 : ((IntKind.u64.wrap (Int.tdiv x3_2 10)) != 0) = false := bne_eq_false_iff_eq.mpr c5
              clear c5
              replace H := Option.bind_eq_some_iff.mp H
              obtain ⟨t303, A60, H⟩ := H
              replace H : (if x4_1.size + ((strOfNums t303).size) ≤ 9223372036854775807 then (some (x4_1 ++ (strOfNums t303))) else (none)) = some r := H
              have A6 := Aside0.mk A60
              clear A60
              by_cases c7 : x4_1.size + ((strOfNums t303).size) ≤ 9223372036854775807
              · rw [if_pos c7] at H
                have c7b0 := eq_true c7
                have c7b1 : decide (x4_1.size + ((strOfNums t303).size) ≤ 9223372036854775807) = true := decide_eq_true c7
                try have c7b2 : (9223372036854775807 < x4_1.size + ((strOfNums t303).size)) = False := eq_false (Nat.not_lt.2 c7)
                obtain rfl := Option.some.inj H
                go_wp2_with (first | ((with_reducible refine gate_builtin (b := .append) (xs := #[.tmp 12, .tmp 17]) rfl ?_); at_builtin; refine Kd.R_append (Kd.int .u8) (w0 := w) w.heap.size rfl (.tmp 12) (.tmp 17) 63 5 (.int .u8 0) 1 rfl Tryd.underlying63 info5 rfl (by decide) (by omega) u5 x5_2 ((IntKind.u64.wrap (48 + (Int.tmod x3_2 10))) % 256) [.int .u8 ((IntKind.u64.wrap (48 + (Int.tmod x3_2 10))) % 256)] (fun _ => True) (fun _ => False) rfl rfl ?aP (fun _ hk => hk.elim) ?aF ?aO ?aB ?aS ?aL ?_; (case aP => exact rfl); (case aB => exact (by repeat (first | (with_reducible first | exact HB.out | apply below_alloc | apply pw_below_drewN | apply below_drew1) | exact HB.out))); (case aF => exact (fun _ _ => trivial)); (case aO => exact (by (with_reducible repeat (first | apply Kd.R_alloc | apply Kd.R_drewN | apply Kd.R_drew)); exact HO_5.out)); (case aS => exact (below_size (by repeat (first | (with_reducible first | exact HB.out | apply below_alloc | apply pw_below_drewN | apply below_drew1) | exact HB.out)))); (case aL => have := LMc4.out; omega); intro v301 w8 ho hb hg hat; rw [← Ny300.out] at ho; have n0_ := Aside0.mk (hb); have n1_ := Aside0.mk (ho); clear HB; clear HO_5; have HB := n0_; have HO302 := n1_; clear n0_ n1_; clear ho hb hg hat; obtain ⟨Ao9, co9, eo9⟩ := Kd.R_slice HO302.out; subst eo9) | ((with_reducible refine gate_callee (f := 50) rfl ?_); refine goesL_ (some 24) rfl rfl Tryd.func50 (by kernel_rfl) rfl #[.slice Ao9 y300.length co9] rfl (by (try simp only [List.map_toArray, List.map_cons, List.map_nil]); first | done | rfl | (simp only [List.length_drop, List.length_take]; rfl)) ?_; (with_reducible refine (slices_Reverse_byte_byte.calls k2 (fun k_ => some k_ = (.slice Ao9 y300.length co9 : Value).ownBlock) (.slice Ao9 y300.length co9) y300 t303 w _ ?side1 ?side2 A6.out).mono ?_); (case side1 => repeat (first | (with_reducible first | exact HB.out | apply below_alloc | apply pw_below_drewN | apply below_drew1) | exact HB.out)); (case side2 => exact Kd.R_tight rfl HO302.out); rintro e w10 ⟨rfl, hy0, hb, hkp⟩; refine ⟨_, rfl, ?_⟩; have n0_ := Aside0.mk (Kd.R_reok rfl hy0 (fun k_ e_ => HO302.out.1 k_ e_)); have n1_ := Aside0.mk (hb); clear HO302; clear HB; have HO302 := n0_; have HB := n1_; clear n0_ n1_; (try clear hb); (try clear hkp); (try clear hy0); have hcv11 := own_string (P := Tryd.prog) Tryd.underlying63 Tryd.underlying5 Tryd.underlying9 (Kd.own_of_R HO302.out)))
                go_ret
                exact ⟨by first | rfl | exact ne_empty _ | exact eq_empty _ | (simp [errW_none, errW_some] <;> rfl) | (simp [*, errW_none, errW_some] <;> rfl), by repeat (first | (with_reducible first | exact HB.out | apply below_alloc | apply pw_below_drewN | apply below_drew1) | exact HB.out)⟩
              · rw [if_neg c7] at H
                exact absurd H (by simp)
            · rw [if_neg c5] at H
              have c5b0 : ((IntKind.u64.wrap (Int.tdiv x3_2 10)) == 0) = false := beq_eq_false_iff_ne.mpr c5
              have c5b1 : ((IntKind.u64.wrap (Int.tdiv x3_2 10)) != 0) = true := bne_iff_ne.mpr c5
              have H' := Aside0.mk H
              clear H
              go_wp2_with (first | ((with_reducible refine gate_builtin (b := .append) (xs := #[.tmp 12, .tmp 17]) rfl ?_); at_builtin; refine Kd.R_append (Kd.int .u8) (w0 := w) w.heap.size rfl (.tmp 12) (.tmp 17) 63 5 (.int .u8 0) 1 rfl Tryd.underlying63 info5 rfl (by decide) (by omega) u5 x5_2 ((IntKind.u64.wrap (48 + (Int.tmod x3_2 10))) % 256) [.int .u8 ((IntKind.u64.wrap (48 + (Int.tmod x3_2 10))) % 256)] (fun _ => True) (fun _ => False) rfl rfl ?aP (fun _ hk => hk.elim) ?aF ?aO ?aB ?aS ?aL ?_; (case aP => exact rfl); (case aB => exact (by repeat (first | (with_reducible first | exact HB.out | apply below_alloc | apply pw_below_drewN | apply below_drew1) | exact HB.out))); (case aF => exact (fun _ _ => trivial)); (case aO => exact (by (with_reducible repeat (first | apply Kd.R_alloc | apply Kd.R_drewN | apply Kd.R_drew)); exact HO_5.out)); (case aS => exact (below_size (by repeat (first | (with_reducible first | exact HB.out | apply below_alloc | apply pw_below_drewN | apply below_drew1) | exact HB.out)))); (case aL => have := LMc4.out; omega); intro v301 w12 ho hb hg hat; rw [← Ny300.out] at ho; have n0_ := Aside0.mk (hb); have n1_ := Aside0.mk (ho); clear HB; clear HO_5; have HB := n0_; have HO302 := n1_; clear n0_ n1_; clear ho hb hg hat))
              go_roundg k2
              case measure => have := HJ1.out; have := HK2.out; omega
              case rel => exact ⟨(IntKind.u64.wrap (Int.tdiv x3_2 10)), (y300), (by first | rfl | (simp; done) | (simp [*]; done)), H', ⟨by have := HJ1.out; have := HK2.out; omega⟩, ⟨by (with_reducible repeat (first | apply Kd.R_alloc | apply Kd.R_drewN | apply Kd.R_drew)); exact HO302.out⟩, ⟨by repeat (first | (with_reducible first | exact HB.out | apply below_alloc | apply pw_below_drewN | apply below_drew1) | exact HB.out)⟩⟩
          · rw [if_neg c4] at H
            exact absurd H (by simp)
end Go.Proofs.YtndghocppadimaaDoor.PAll
namespace Go.Proofs.YtndghocppadimaaDoor.PAll
open Go.RowKit Go.Proofs.YtndghocppadimaaDoor.Xw Go.Proofs.YtndghocppadimaaDoorW.PrintWords Go.Proofs.YtndghocppadimaaDoorW.PrintLast Go.Proofs.YtndghocppadimaaDoorW.PrintMore
attribute [local go_sem] max2_int min2_int max_two min_two max_three min_three max_four min_four   -- for this text's walks alone
set_option linter.unusedVariables false
set_option linter.unusedSimpArgs false
def spec_shown.f (k : Nat) (a0_0 : Int) (a0_1 : Int) (a0_2 : Int) : Option (ByteArray) := if a0_0 = 1 then ((nums_Print.f k a0_1).bind fun t305 => (if t305.size + 1 ≤ 9223372036854775807 then (some (t305 ++ (⟨#[45]⟩ : ByteArray))) else (none))) else (if a0_0 = 2 then ((nums_Print.f k a0_1).bind fun t306 => (if t306.size + 1 ≤ 9223372036854775807 then ((nums_Print.f k a0_2).bind fun t307 => (if t306.size + 1 + t307.size ≤ 9223372036854775807 then (some ((t306 ++ (⟨#[45]⟩ : ByteArray)) ++ t307)) else (none))) else (none))) else (if a0_0 = 3 then ((nums_Print.f k a0_1).bind fun t308 => (if 1 + t308.size ≤ 9223372036854775807 then (some ((⟨#[45]⟩ : ByteArray) ++ t308)) else (none))) else (some (⟨#[63]⟩ : ByteArray))))
theorem spec_shown.mono : ∀ a0 a1 a2 k, LeO (spec_shown.f k a0 a1 a2) (spec_shown.f (k + 1) a0 a1 a2) := by
  intro a0 a1 a2 k
  unfold spec_shown.f
  repeat' first
      | (with_reducible exact nums_Print.mono _ _)
      | (with_reducible exact LeO.refl _)
      | (with_reducible exact LeO.none _)
      | (with_reducible refine LeO.ite ?_ ?_)
      | (with_reducible refine LeO.bind ?_ (fun _ => ?_))
      | exact nums_Print.mono _ _
      | exact LeO.none _
      | refine LeO.ite ?_ ?_
      | refine LeO.bind ?_ (fun _ => ?_)
def spec_shown.T5 : Bool × List (List Nat × List Nat) := (true, [([], []), ([0], [0]), ([1], [1]), ([2], [2]), ([], []), ([4], [4]), ([5, 2], [5]), ([3, 6], [3, 6]), ([7, 6, 0, 1, 2, 3, 4, 5, 6, 7], [7])])
def spec_shown.B5 : List Nat := [0, 1, 3, 7, 0, 16, 55, 127, 255]
theorem spec_shown.tab5 : rtab .any (opsOf Tryd.f27 5) = spec_shown.T5 := by kernel_rfl
theorem spec_shown.bits5 : waitsOk spec_shown.T5.2 spec_shown.B5 = true := by kernel_rfl
set_option maxHeartbeats 8000000 in
set_option maxRecDepth 100000 in
theorem spec_shown.calls (k : Nat) (a0_0 : Int) (a0_1 : Int) (a0_2 : Int) (r : ByteArray) (w : World) (h : spec_shown.f k a0_0 a0_1 a0_2 = some r) :
    Calls Tryd.prog 27 #[.agg #[.int .i64 a0_0, .int .i64 a0_1, .int .i64 a0_2]] w fun e w' => e = .returned (.string r) ∧ Below w.heap.size w w' := by
  have hu33 := Tryd.underlying33
  have HB := Aside0.mk (Below.refl w.heap.size w)
  have H : (if a0_0 = 1 then ((nums_Print.f k a0_1).bind fun t305 => (if t305.size + 1 ≤ 9223372036854775807 then (some (t305 ++ (⟨#[45]⟩ : ByteArray))) else (none))) else (if a0_0 = 2 then ((nums_Print.f k a0_1).bind fun t306 => (if t306.size + 1 ≤ 9223372036854775807 then ((nums_Print.f k a0_2).bind fun t307 => (if t306.size + 1 + t307.size ≤ 9223372036854775807 then (some ((t306 ++ (⟨#[45]⟩ : ByteArray)) ++ t307)) else (none))) else (none))) else (if a0_0 = 3 then ((nums_Print.f k a0_1).bind fun t308 => (if 1 + t308.size ≤ 9223372036854775807 then (some ((⟨#[45]⟩ : ByteArray) ++ t308)) else (none))) else (some (⟨#[63]⟩ : ByteArray))))) = some r := h
  clear h
  by_cases c2 : a0_0 = 1
  · rw [if_pos c2] at H
    have c2b0 : (a0_0 == 1) = true := beq_iff_eq.mpr c2
    have c2b1 : (a0_0 != 1) = false := bne_eq_false_iff_eq.mpr c2
    clear c2
    replace H := Option.bind_eq_some_iff.mp H
    obtain ⟨t305, A30, H⟩ := H
    replace H : (if t305.size + 1 ≤ 9223372036854775807 then (some (t305 ++ (⟨#[45]⟩ : ByteArray))) else (none)) = some r := H
    have A3 := Aside0.mk A30
    clear A30
    by_cases c4 : t305.size + 1 ≤ 9223372036854775807
    · rw [if_pos c4] at H
      have c4b0 := eq_true c4
      have c4b1 : decide (t305.size + 1 ≤ 9223372036854775807) = true := decide_eq_true c4
      try have c4b2 : (9223372036854775807 < t305.size + 1) = False := eq_false (Nat.not_lt.2 c4)
      obtain rfl := Option.some.inj H
      go_enter Tryd.func27, Tryd.ntmps27
      go_wp2_with (first | ((with_reducible refine gate_dst (N := 1) rfl ?_); refine box_event ?hg (N := 1) ?hd (cs := #[.int .i64 a0_0, .int .i64 a0_1, .int .i64 a0_2]) (t := 33) ?hr ?_; (case hd => rfl); (case hg => rfl); (case hr => first | (go_simp; done) | (go_simp; rfl)); intro gb304 hg w5 hbox hb; have n0_ := Aside0.mk (below_step (by repeat (first | (with_reducible first | exact HB.out | apply below_alloc | apply pw_below_drewN | apply below_drew1) | exact HB.out)) hb); have n1_ := Aside0.mk (hbox); have n2_ := Aside0.mk ((by rw [hg]; exact (below_size (by repeat (first | (with_reducible first | exact HB.out | apply below_alloc | apply pw_below_drewN | apply below_drew1) | exact HB.out))) : w.heap.size ≤ gb304)); have n3_ := Aside0.mk ((by rw [hg]; exact (below_size (by repeat (first | (with_reducible first | exact HB.out | apply below_alloc | apply pw_below_drewN | apply below_drew1) | exact HB.out))) : w.heap.size ≤ gb304)); clear HB; have HB := n0_; have BK304 := n1_; have GW304 := n2_; have GE304 := n3_; clear n0_ n1_ n2_ n3_; clear hb hbox hg; have hcz6_0 : w5.cell? ⟨gb304, 0, none⟩ = some (.int .i64 a0_0) := (blk_cell BK304.out 0).trans rfl; have hcz6_1 : w5.cell? ⟨gb304, 1, none⟩ = some (.int .i64 a0_1) := (blk_cell BK304.out 1).trans rfl; have hcz6_2 : w5.cell? ⟨gb304, 2, none⟩ = some (.int .i64 a0_2) := (blk_cell BK304.out 2).trans rfl; have hfz6_0 := blk_frozen BK304.out 0; have hfz6_1 := blk_frozen BK304.out 1; have hfz6_2 := blk_frozen BK304.out 2) | ((with_reducible refine gate_callee (f := 40) rfl ?_); refine goesL_ (some 9) rfl rfl Tryd.func40 (by kernel_rfl) rfl #[.int .i64 a0_1] rfl (by (try simp only [List.map_toArray, List.map_cons, List.map_nil]); first | done | rfl | (simp only [List.length_drop, List.length_take]; rfl)) ?_; (with_reducible refine (nums_Print.calls k a0_1 t305 _ A3.out).mono ?_); rintro e w7 ⟨rfl, hb⟩; refine ⟨_, rfl, ?_⟩; have n0_ := Aside0.mk (blk_below (g := gb304) (o := .cells #[.int .i64 a0_0, .int .i64 a0_1, .int .i64 a0_2] 33 (0, 0)) (by (with_reducible repeat (first | refine blk_drewN ?_ _ | refine blk_drew ?_ | refine blk_alloc ?_ _)); exact BK304.out) hb); have n1_ := Aside0.mk (below_step (by repeat (first | (with_reducible first | exact HB.out | apply below_alloc | apply pw_below_drewN | apply below_drew1 | refine below_set ?_ GE304.out) | exact HB.out)) hb); clear BK304; clear HB; have BK304 := n0_; have HB := n1_; clear n0_ n1_; (try clear hb); (try clear hb2); (try clear hk); (try clear hi)))
      go_ret
      exact ⟨by first | rfl | exact ne_empty _ | exact eq_empty _ | (simp [errW_none, errW_some] <;> rfl) | (simp [*, errW_none, errW_some] <;> rfl), by repeat (first | (with_reducible first | exact HB.out | apply below_alloc | apply pw_below_drewN | apply below_drew1 | refine below_set ?_ GE304.out) | exact HB.out)⟩
    · rw [if_neg c4] at H
      exact absurd H (by simp)
  · rw [if_neg c2] at H
    have c2b0 : (a0_0 == 1) = false := beq_eq_false_iff_ne.mpr c2
    have c2b1 : (a0_0 != 1) = true := bne_iff_ne.mpr c2
    by_cases c8 : a0_0 = 2
    · rw [if_pos c8] at H
      have c8b0 : (a0_0 == 2) = true := beq_iff_eq.mpr c8
      have c8b1 : (a0_0 != 2) = false := bne_eq_false_iff_eq.mpr c8
      clear c8
      replace H := Option.bind_eq_some_iff.mp H
      obtain ⟨t306, A90, H⟩ := H
      replace H : (if t306.size + 1 ≤ 9223372036854775807 then ((nums_Print.f k a0_2).bind fun t307 => (if t306.size + 1 + t307.size ≤ 9223372036854775807 then (some ((t306 ++ (⟨#[45]⟩ : ByteArray)) ++ t307)) else (none))) else (none)) = some r := H
      have A9 := Aside0.mk A90
      clear A90
      by_cases c10 : t306.size + 1 ≤ 9223372036854775807
      · rw [if_pos c10] at H
        have c10b0 := eq_true c10
        have c10b1 : decide (t306.size + 1 ≤ 9223372036854775807) = true := decide_eq_true c10
        try have c10b2 : (9223372036854775807 < t306.size + 1) = False := eq_false (Nat.not_lt.2 c10)
        replace H := Option.bind_eq_some_iff.mp H
        obtain ⟨t307, A110, H⟩ := H
        replace H : (if t306.size + 1 + t307.size ≤ 9223372036854775807 then (some ((t306 ++ (⟨#[45]⟩ : ByteArray)) ++ t307)) else (none)) = some r := H
        have A11 := Aside0.mk A110
        clear A110
        by_cases c12 : t306.size + 1 + t307.size ≤ 9223372036854775807
        · rw [if_pos c12] at H
          have c12b0 := eq_true c12
          have c12b1 : decide (t306.size + 1 + t307.size ≤ 9223372036854775807) = true := decide_eq_true c12
          try have c12b2 : (9223372036854775807 < t306.size + 1 + t307.size) = False := eq_false (Nat.not_lt.2 c12)
          obtain rfl := Option.some.inj H
          go_enter Tryd.func27, Tryd.ntmps27
          try go_wp2_with (first | ((with_reducible refine gate_dst (N := 1) rfl ?_); refine box_event ?hg (N := 1) ?hd (cs := #[.int .i64 a0_0, .int .i64 a0_1, .int .i64 a0_2]) (t := 33) ?hr ?_; (case hd => rfl); (case hg => rfl); (case hr => first | (go_simp; done) | (go_simp; rfl)); intro gb304 hg w13 hbox hb; have n0_ := Aside0.mk (below_step (by repeat (first | (with_reducible first | exact HB.out | apply below_alloc | apply pw_below_drewN | apply below_drew1) | exact HB.out)) hb); have n1_ := Aside0.mk (hbox); have n2_ := Aside0.mk ((by rw [hg]; exact (below_size (by repeat (first | (with_reducible first | exact HB.out | apply below_alloc | apply pw_below_drewN | apply below_drew1) | exact HB.out))) : w.heap.size ≤ gb304)); have n3_ := Aside0.mk ((by rw [hg]; exact (below_size (by repeat (first | (with_reducible first | exact HB.out | apply below_alloc | apply pw_below_drewN | apply below_drew1) | exact HB.out))) : w.heap.size ≤ gb304)); clear HB; have HB := n0_; have BK304 := n1_; have GW304 := n2_; have GE304 := n3_; clear n0_ n1_ n2_ n3_; clear hb hbox hg; have hcz14_0 : w13.cell? ⟨gb304, 0, none⟩ = some (.int .i64 a0_0) := (blk_cell BK304.out 0).trans rfl; have hcz14_1 : w13.cell? ⟨gb304, 1, none⟩ = some (.int .i64 a0_1) := (blk_cell BK304.out 1).trans rfl; have hcz14_2 : w13.cell? ⟨gb304, 2, none⟩ = some (.int .i64 a0_2) := (blk_cell BK304.out 2).trans rfl; have hfz14_0 := blk_frozen BK304.out 0; have hfz14_1 := blk_frozen BK304.out 1; have hfz14_2 := blk_frozen BK304.out 2))
          have n0_ := Aside0.mk (blk_drew BK304.out)
          have n1_ := Aside0.mk (below_drew1 HB.out)
          clear BK304
          clear HB
          have BK304 := n0_
          have HB := n1_
          clear n0_ n1_
          refine start_ (n := 9) (S := fun w' => w'.cell? ⟨gb304, 0, none⟩ = some (.int .i64 a0_0) ∧ w'.cell? ⟨gb304, 1, none⟩ = some (.int .i64 a0_1) ∧ w'.cell? ⟨gb304, 2, none⟩ = some (.int .i64 a0_2)) (ds := []) #[false, false, false, false, false, false, false, false, false] (by kernel_rfl) rfl rfl ⟨(blk_cell BK304.out 0).trans rfl, (blk_cell BK304.out 1).trans rfl, (blk_cell BK304.out 2).trans rfl⟩ (fun hHeld => ?_); refine with_tabW spec_shown.tab5 spec_shown.bits5 (fun HT_ HW_ => ?_)
          generalize w13.drew = w15 at BK304 HB hHeld ⊢
          refine pure_ (i := 0) (N := some 13) (v := ?_) (a' := ?_) #[true, false, false, false, false, false, false, false, false] rfl rfl (any_of HT_.out (by kernel_rfl)) (fun _ _ _ h => h) (Or.inl ⟨by rfl, ?_⟩) ?_ ?_
          rotate_left
          · intro w'
            go_simp
            with_reducible rfl
          rotate_left
          · simp only [Act.put, List.setIfInBounds_toArray, List.set_cons_zero, List.set_cons_succ, i64_w, i32_w]
            rfl
          refine pure_ (i := 4) (N := some 17) (v := ?_) (a' := ?_) #[true, false, false, false, true, false, false, false, false] rfl rfl (any_of HT_.out (by kernel_rfl)) (fun _ _ _ h => h) (Or.inl ⟨by rfl, ?_⟩) ?_ ?_
          rotate_left
          · intro w'
            go_simp
            with_reducible rfl
          rotate_left
          · simp only [Act.put, List.setIfInBounds_toArray, List.set_cons_zero, List.set_cons_succ, i64_w, i32_w]
            rfl
          refine take_ (i := 1) (N := some 14) (v := ?_) (a' := ?_) #[true, true, false, false, true, false, false, false, false] rfl rfl (take_ofW HT_.out HW_.out (by kernel_rfl)) (fun _ _ _ h => h) (Or.inl ⟨by rfl, ?_⟩) hHeld ?_ ?_
          rotate_left
          · rintro w' ⟨s0, s1, s2⟩
            go_simp
            with_reducible rfl
          rotate_left
          · simp only [Act.put, List.setIfInBounds_toArray, List.set_cons_zero, List.set_cons_succ, i64_w, i32_w]
            rfl
          refine take_ (i := 5) (N := some 18) (v := ?_) (a' := ?_) #[true, true, false, false, true, true, false, false, false] rfl rfl (take_ofW HT_.out HW_.out (by kernel_rfl)) (fun _ _ _ h => h) (Or.inl ⟨by rfl, ?_⟩) hHeld ?_ ?_
          rotate_left
          · rintro w' ⟨s0, s1, s2⟩
            go_simp
            with_reducible rfl
          rotate_left
          · simp only [Act.put, List.setIfInBounds_toArray, List.set_cons_zero, List.set_cons_succ, i64_w, i32_w]
            rfl
          refine one_ (i := 2) (N := some 15) #[true, true, true, false, true, true, false, false, false] rfl rfl (one_of HT_.out (by kernel_rfl)) (by decide) (fun K hK => ?_)
          refine goes_ Tryd.func40 (by kernel_rfl) rfl #[.int .i64 a0_1] (by rfl) rfl rfl (by (try simp only [List.map_toArray, List.map_cons, List.map_nil]); first | done | rfl | (simp only [List.length_drop, List.length_take]; rfl)) ?_
          with_reducible refine (nums_Print.calls k a0_1 t306 _ A9.out).mono ?_
          rintro e w16 ⟨rfl, hb⟩
          refine ⟨_, rfl, ?_⟩
          have n0_ := Aside0.mk (blk_below (g := gb304) (o := .cells #[.int .i64 a0_0, .int .i64 a0_1, .int .i64 a0_2] 33 (0, 0)) (by (with_reducible repeat (first | refine blk_drewN ?_ _ | refine blk_drew ?_ | refine blk_alloc ?_ _)); exact BK304.out) hb)
          have n1_ := Aside0.mk (below_step (by repeat (first | (with_reducible first | exact HB.out | apply below_alloc | apply pw_below_drewN | apply below_drew1 | refine below_set ?_ GE304.out) | exact HB.out)) hb)
          clear BK304
          clear HB
          have BK304 := n0_
          have HB := n1_
          clear n0_ n1_
          (try clear hb)
          (try clear hb2)
          (try clear hk)
          (try clear hi)
          refine hK.out _ _ ⟨(blk_cell BK304.out 0).trans rfl, (blk_cell BK304.out 1).trans rfl, (blk_cell BK304.out 2).trans rfl⟩ (fun hHeld => ?_)
          clear hK K
          refine norm_ (a' := ?_) ?_ ?_
          rotate_left
          · show Act.put _ (some 15) _ = _
            simp only [Act.put, List.setIfInBounds_toArray, List.set_cons_zero, List.set_cons_succ, i64_w, i32_w]
            rfl
          refine pure_ (i := 3) (N := some 16) (v := ?_) (a' := ?_) #[true, true, true, true, true, true, false, false, false] rfl rfl (any_of HT_.out (by kernel_rfl)) (fun _ _ _ h => h) (Or.inl ⟨by rfl, ?_⟩) ?_ ?_
          rotate_left
          · intro w'
            go_simp
            with_reducible rfl
          rotate_left
          · simp only [Act.put, List.setIfInBounds_toArray, List.set_cons_zero, List.set_cons_succ, i64_w, i32_w]
            rfl
          refine one_ (i := 6) (N := some 19) #[true, true, true, true, true, true, true, false, false] rfl rfl (one_of HT_.out (by kernel_rfl)) (by decide) (fun K hK => ?_)
          refine goes_ Tryd.func40 (by kernel_rfl) rfl #[.int .i64 a0_2] (by rfl) rfl rfl (by (try simp only [List.map_toArray, List.map_cons, List.map_nil]); first | done | rfl | (simp only [List.length_drop, List.length_take]; rfl)) ?_
          with_reducible refine (nums_Print.calls k a0_2 t307 _ A11.out).mono ?_
          rintro e w17 ⟨rfl, hb⟩
          refine ⟨_, rfl, ?_⟩
          have n0_ := Aside0.mk (blk_below (g := gb304) (o := .cells #[.int .i64 a0_0, .int .i64 a0_1, .int .i64 a0_2] 33 (0, 0)) (by (with_reducible repeat (first | refine blk_drewN ?_ _ | refine blk_drew ?_ | refine blk_alloc ?_ _)); exact BK304.out) hb)
          have n1_ := Aside0.mk (below_step (by repeat (first | (with_reducible first | exact HB.out | apply below_alloc | apply pw_below_drewN | apply below_drew1 | refine below_set ?_ GE304.out) | exact HB.out)) hb)
          clear BK304
          clear HB
          have BK304 := n0_
          have HB := n1_
          clear n0_ n1_
          (try clear hb)
          (try clear hb2)
          (try clear hk)
          (try clear hi)
          refine hK.out _ _ ⟨(blk_cell BK304.out 0).trans rfl, (blk_cell BK304.out 1).trans rfl, (blk_cell BK304.out 2).trans rfl⟩ (fun hHeld => ?_)
          clear hK K
          refine norm_ (a' := ?_) ?_ ?_
          rotate_left
          · show Act.put _ (some 19) _ = _
            simp only [Act.put, List.setIfInBounds_toArray, List.set_cons_zero, List.set_cons_succ, i64_w, i32_w]
            rfl
          refine pure_ (i := 7) (N := some 20) (v := ?_) (a' := ?_) #[true, true, true, true, true, true, true, true, false] rfl rfl (any_of HT_.out (by kernel_rfl)) (fun _ _ _ h => h) (Or.inl ⟨by rfl, ?_⟩) ?_ ?_
          rotate_left
          · intro w'
            go_simp
            with_reducible rfl
          rotate_left
          · simp only [Act.put, List.setIfInBounds_toArray, List.set_cons_zero, List.set_cons_succ, i64_w, i32_w]
            rfl
          refine pure_ (i := 8) (N := some 2) (v := ?_) (a' := ?_) #[true, true, true, true, true, true, true, true, true] rfl rfl (any_of HT_.out (by kernel_rfl)) (fun _ _ _ h => h) (Or.inl ⟨by rfl, ?_⟩) ?_ ?_
          rotate_left
          · intro w'
            go_simp
            with_reducible rfl
          rotate_left
          · simp only [Act.put, List.setIfInBounds_toArray, List.set_cons_zero, List.set_cons_succ, i64_w, i32_w]
            rfl
          refine done_ (done_of HT_.out (by kernel_rfl)) ?_
          try go_wp2
          go_ret
          exact ⟨by first | rfl | exact ne_empty _ | exact eq_empty _ | (simp [errW_none, errW_some] <;> rfl) | (simp [*, errW_none, errW_some] <;> rfl), by repeat (first | (with_reducible first | exact HB.out | apply below_alloc | apply pw_below_drewN | apply below_drew1 | refine below_set ?_ GE304.out) | exact HB.out)⟩
        · rw [if_neg c12] at H
          exact absurd H (by simp)
      · rw [if_neg c10] at H
        exact absurd H (by simp)
    · rw [if_neg c8] at H
      have c8b0 : (a0_0 == 2) = false := beq_eq_false_iff_ne.mpr c8
      have c8b1 : (a0_0 != 2) = true := bne_iff_ne.mpr c8
      by_cases c18 : a0_0 = 3
      · rw [if_pos c18] at H
        have c18b0 : (a0_0 == 3) = true := beq_iff_eq.mpr c18
        have c18b1 : (a0_0 != 3) = false := bne_eq_false_iff_eq.mpr c18
        clear c18
        replace H := Option.bind_eq_some_iff.mp H
        obtain ⟨t308, A190, H⟩ := H
        replace H : (if 1 + t308.size ≤ 9223372036854775807 then (some ((⟨#[45]⟩ : ByteArray) ++ t308)) else (none)) = some r := H
        have A19 := Aside0.mk A190
        clear A190
        by_cases c20 : 1 + t308.size ≤ 9223372036854775807
        · rw [if_pos c20] at H
          have c20b0 := eq_true c20
          have c20b1 : decide (1 + t308.size ≤ 9223372036854775807) = true := decide_eq_true c20
          try have c20b2 : (9223372036854775807 < 1 + t308.size) = False := eq_false (Nat.not_lt.2 c20)
          obtain rfl := Option.some.inj H
          go_enter Tryd.func27, Tryd.ntmps27
          go_wp2_with (first | ((with_reducible refine gate_dst (N := 1) rfl ?_); refine box_event ?hg (N := 1) ?hd (cs := #[.int .i64 a0_0, .int .i64 a0_1, .int .i64 a0_2]) (t := 33) ?hr ?_; (case hd => rfl); (case hg => rfl); (case hr => first | (go_simp; done) | (go_simp; rfl)); intro gb304 hg w21 hbox hb; have n0_ := Aside0.mk (below_step (by repeat (first | (with_reducible first | exact HB.out | apply below_alloc | apply pw_below_drewN | apply below_drew1) | exact HB.out)) hb); have n1_ := Aside0.mk (hbox); have n2_ := Aside0.mk ((by rw [hg]; exact (below_size (by repeat (first | (with_reducible first | exact HB.out | apply below_alloc | apply pw_below_drewN | apply below_drew1) | exact HB.out))) : w.heap.size ≤ gb304)); have n3_ := Aside0.mk ((by rw [hg]; exact (below_size (by repeat (first | (with_reducible first | exact HB.out | apply below_alloc | apply pw_below_drewN | apply below_drew1) | exact HB.out))) : w.heap.size ≤ gb304)); clear HB; have HB := n0_; have BK304 := n1_; have GW304 := n2_; have GE304 := n3_; clear n0_ n1_ n2_ n3_; clear hb hbox hg; have hcz22_0 : w21.cell? ⟨gb304, 0, none⟩ = some (.int .i64 a0_0) := (blk_cell BK304.out 0).trans rfl; have hcz22_1 : w21.cell? ⟨gb304, 1, none⟩ = some (.int .i64 a0_1) := (blk_cell BK304.out 1).trans rfl; have hcz22_2 : w21.cell? ⟨gb304, 2, none⟩ = some (.int .i64 a0_2) := (blk_cell BK304.out 2).trans rfl; have hfz22_0 := blk_frozen BK304.out 0; have hfz22_1 := blk_frozen BK304.out 1; have hfz22_2 := blk_frozen BK304.out 2) | ((with_reducible refine gate_callee (f := 40) rfl ?_); refine goesL_ (some 25) rfl rfl Tryd.func40 (by kernel_rfl) rfl #[.int .i64 a0_1] rfl (by (try simp only [List.map_toArray, List.map_cons, List.map_nil]); first | done | rfl | (simp only [List.length_drop, List.length_take]; rfl)) ?_; (with_reducible refine (nums_Print.calls k a0_1 t308 _ A19.out).mono ?_); rintro e w23 ⟨rfl, hb⟩; refine ⟨_, rfl, ?_⟩; have n0_ := Aside0.mk (blk_below (g := gb304) (o := .cells #[.int .i64 a0_0, .int .i64 a0_1, .int .i64 a0_2] 33 (0, 0)) (by (with_reducible repeat (first | refine blk_drewN ?_ _ | refine blk_drew ?_ | refine blk_alloc ?_ _)); exact BK304.out) hb); have n1_ := Aside0.mk (below_step (by repeat (first | (with_reducible first | exact HB.out | apply below_alloc | apply pw_below_drewN | apply below_drew1 | refine below_set ?_ GE304.out) | exact HB.out)) hb); clear BK304; clear HB; have BK304 := n0_; have HB := n1_; clear n0_ n1_; (try clear hb); (try clear hb2); (try clear hk); (try clear hi)))
          go_ret
          exact ⟨by first | rfl | exact ne_empty _ | exact eq_empty _ | (simp [errW_none, errW_some] <;> rfl) | (simp [*, errW_none, errW_some] <;> rfl), by repeat (first | (with_reducible first | exact HB.out | apply below_alloc | apply pw_below_drewN | apply below_drew1 | refine below_set ?_ GE304.out) | exact HB.out)⟩
        · rw [if_neg c20] at H
          exact absurd H (by simp)
      · rw [if_neg c18] at H
        have c18b0 : (a0_0 == 3) = false := beq_eq_false_iff_ne.mpr c18
        have c18b1 : (a0_0 != 3) = true := bne_iff_ne.mpr c18
        obtain rfl := Option.some.inj H
        go_enter Tryd.func27, Tryd.ntmps27
        go_wp2_with (first | ((with_reducible refine gate_dst (N := 1) rfl ?_); refine box_event ?hg (N := 1) ?hd (cs := #[.int .i64 a0_0, .int .i64 a0_1, .int .i64 a0_2]) (t := 33) ?hr ?_; (case hd => rfl); (case hg => rfl); (case hr => first | (go_simp; done) | (go_simp; rfl)); intro gb304 hg w24 hbox hb; have n0_ := Aside0.mk (below_step (by repeat (first | (with_reducible first | exact HB.out | apply below_alloc | apply pw_below_drewN | apply below_drew1) | exact HB.out)) hb); have n1_ := Aside0.mk (hbox); have n2_ := Aside0.mk ((by rw [hg]; exact (below_size (by repeat (first | (with_reducible first | exact HB.out | apply below_alloc | apply pw_below_drewN | apply below_drew1) | exact HB.out))) : w.heap.size ≤ gb304)); have n3_ := Aside0.mk ((by rw [hg]; exact (below_size (by repeat (first | (with_reducible first | exact HB.out | apply below_alloc | apply pw_below_drewN | apply below_drew1) | exact HB.out))) : w.heap.size ≤ gb304)); clear HB; have HB := n0_; have BK304 := n1_; have GW304 := n2_; have GE304 := n3_; clear n0_ n1_ n2_ n3_; clear hb hbox hg; have hcz25_0 : w24.cell? ⟨gb304, 0, none⟩ = some (.int .i64 a0_0) := (blk_cell BK304.out 0).trans rfl; have hcz25_1 : w24.cell? ⟨gb304, 1, none⟩ = some (.int .i64 a0_1) := (blk_cell BK304.out 1).trans rfl; have hcz25_2 : w24.cell? ⟨gb304, 2, none⟩ = some (.int .i64 a0_2) := (blk_cell BK304.out 2).trans rfl; have hfz25_0 := blk_frozen BK304.out 0; have hfz25_1 := blk_frozen BK304.out 1; have hfz25_2 := blk_frozen BK304.out 2))
        go_ret
        exact ⟨by first | rfl | exact ne_empty _ | exact eq_empty _ | (simp [errW_none, errW_some] <;> rfl) | (simp [*, errW_none, errW_some] <;> rfl), by repeat (first | (with_reducible first | exact HB.out | apply below_alloc | apply pw_below_drewN | apply below_drew1 | refine below_set ?_ GE304.out) | exact HB.out)⟩
/-- texts, one behind the other, with a text between -/
def joinI (sep : List Int) : List (List Int) → List Int
  | [] => []
  | [x] => x
  | x :: y :: r => x ++ sep ++ joinI sep (y :: r)
theorem join_bytes (sep : List UInt8) : ∀ l : List (List UInt8), (Lib.join l sep).map (fun b => ((b.toNat : Nat) : Int)) = joinI (sep.map fun b => ((b.toNat : Nat) : Int)) (l.map fun x => x.map fun b => ((b.toNat : Nat) : Int))
  | [] => rfl
  | [x] => by rw [Lib.join_one]; rfl
  | x :: y :: r => by
    have ih := join_bytes sep (y :: r)
    rw [Lib.join_cons] at ih ⊢
    rw [show Lib.joinTail sep (y :: r) = sep ++ (y ++ Lib.joinTail sep r) by simp [Lib.joinTail]]
    rw [List.map_append, List.map_append, ih]
    simp only [List.map_cons, joinI, List.append_assoc]
theorem str_nums (l : List UInt8) : strOfNums (l.map fun b => ((b.toNat : Nat) : Int)) = ⟨l.toArray⟩ := by
  apply ByteArray.ext
  apply Array.toList_inj.1
  rw [strOfNums_data, List.map_map]
  conv => rhs; rw [← List.map_id l]
  apply List.map_congr_left
  intro b _
  simp
def strings_Join.f (l0 : List ByteArray) (a1 : ByteArray) : Option ByteArray := if l0.length ≤ 140737488355328 then (if (joinI (bytesOf a1) (l0.map bytesOf)).length ≤ 140737488355328 then (some (strOfNums (joinI (bytesOf a1) (l0.map bytesOf)))) else none) else none
theorem strings_Join.calls (A0 : Option Addr) (c0 : Nat) (l0 : List ByteArray) (a1 : ByteArray) (r : ByteArray) (w : World) (hr0 : Kd.C Kd.string w A0 l0.length l0) (hc0 : l0.length ≤ c0) (h : strings_Join.f l0 a1 = some r) :
    Calls Tryd.prog 28 #[.slice A0 l0.length c0, .string a1] w fun e w' => e = .returned (.string r) ∧ Below w.heap.size w w' := by
  have hj : joinI (bytesOf a1) (l0.map bytesOf) = (Lib.join (l0.map (·.data.toList)) a1.data.toList).map (fun b => ((b.toNat : Nat) : Int)) := by
    rw [join_bytes, List.map_map]; rfl
  unfold strings_Join.f at h
  by_cases hN : l0.length ≤ 140737488355328
  rotate_left
  · rw [if_neg hN] at h; cases h
  rw [if_pos hN, hj, str_nums, List.length_map] at h
  by_cases hl : (Lib.join (l0.map (·.data.toList)) a1.data.toList).length ≤ 140737488355328
  rotate_left
  · rw [if_neg hl] at h; cases h
  rw [if_pos hl] at h
  obtain rfl := Option.some.inj h
  rcases Nat.eq_zero_or_pos l0.length with h0 | h0
  · have e0 : l0 = [] := List.eq_nil_of_length_eq_zero h0
    subst e0
    exact (Tryd.strings_Join_none A0 c0 a1 w).mono fun e w' ⟨he, hw⟩ => ⟨he, hw ▸ Below.refl _ _⟩
  · have hcell : ∀ (j : Nat) x, l0[j]? = some x → ∃ ad, A0 = some ad ∧ w.cell? (ad.add j) = some (.string x) := by
      intro j x hx
      have hj2 : j < l0.length := (List.getElem?_eq_some_iff.1 hx).1
      obtain ⟨ad, e, hc⟩ := Kd.at_string hr0 (j : Int) (by omega) (by omega)
      refine ⟨ad, e, ?_⟩
      rw [Int.toNat_natCast] at hc
      rw [hc]
      simp [rdOf, hx]
    obtain ⟨ad, rfl, hc1⟩ := hcell 0 _ (List.getElem?_eq_getElem h0)
    have hsp : ad.spot = none := by
      cases hs : ad.spot with
      | none => rfl
      | some s => unfold World.cell? at hc1; simp [Addr.add, hs] at hc1; split at hc1 <;> cases hc1
    have hcells : ∀ (j : Nat) x, l0[j]? = some x → w.cell? ⟨ad.block, ad.off + j, none⟩ = some (.string x) := by
      intro j x hx
      obtain ⟨ad2, e2, hc2⟩ := hcell j x hx
      obtain rfl := Option.some.inj e2
      have ea : (⟨ad.block, ad.off + j, none⟩ : Addr) = ad.add j := by
        clear hc2 hc1 hr0 hcell e2
        obtain ⟨b, o, s⟩ := ad
        obtain rfl : s = none := hsp
        unfold Addr.add
        split <;> simp_all
      rw [ea]; exact hc2
    have hlt : ad.block < w.heap.size := block_lt_of_cell hc1
    have HC := Tryd.strings_Join ad.block ad.off c0 l0 a1 w hcells hlt hN hc0 hl
    clear hcells hcell hc1 hr0 hj hl
    obtain ⟨b, o, s⟩ := ad
    obtain rfl : s = none := hsp
    exact HC
def spec_Print.l0 : Nat → List ByteArray → List (S33) → Int → Int → Option (ByteArray)
  | 0, _, _, _, _ => none
  | k + 1, x3, x6, x7, x8 => if x8 < x7 then (if 0 ≤ x8 then (if x8 < (x6.length : Int) then ((spec_shown.f k ((rd_T33 x6 x8).f0) ((rd_T33 x6 x8).f1) ((rd_T33 x6 x8).f2)).bind fun t311 => (if x3.length < 8796093022208 then (spec_Print.l0 k (x3 ++ [t311]) x6 x7 (wrap64 (x8 + 1))) else (none))) else (none)) else (none)) else ((strings_Join.f x3 (⟨#[44]⟩ : ByteArray)).bind fun t315 => (if 6 + t315.size ≤ 9223372036854775807 then (some ((⟨#[98, 121, 116, 101, 115, 61]⟩ : ByteArray) ++ t315)) else (none)))
def spec_Print.f (k : Nat) (l0 : List (S33)) : Option (ByteArray) := spec_Print.l0 k ([] : List ByteArray) l0 (l0.length : Int) 0
theorem spec_Print.mono_l : ∀ k, (∀ y0 y1 y2 y3, LeO (spec_Print.l0 k y0 y1 y2 y3) (spec_Print.l0 (k + 1) y0 y1 y2 y3))
  | 0 => fun _ _ _ _ r h => by simp [spec_Print.l0] at h
  | k + 1 => by
    have ih0 := spec_Print.mono_l k
    · intro y0 y1 y2 y3
      unfold spec_Print.l0
      repeat' first
      | (with_reducible exact ih0 _ _ _ _)
      | (with_reducible exact spec_shown.mono _ _ _ _)
      | (with_reducible exact LeO.refl _)
      | (with_reducible exact LeO.none _)
      | (with_reducible refine LeO.ite ?_ ?_)
      | (with_reducible refine LeO.bind ?_ (fun _ => ?_))
      | exact ih0 _ _ _ _
      | exact spec_shown.mono _ _ _ _
      | exact LeO.none _
      | refine LeO.ite ?_ ?_
      | refine LeO.bind ?_ (fun _ => ?_)
theorem spec_Print.mono : ∀ a0 k, LeO (spec_Print.f k a0) (spec_Print.f (k + 1) a0) := by
  intro a0 k
  have ih0 := spec_Print.mono_l k
  unfold spec_Print.f
  repeat' first
      | (with_reducible exact ih0 _ _ _ _)
      | (with_reducible exact spec_shown.mono _ _ _ _)
      | (with_reducible exact LeO.refl _)
      | (with_reducible exact LeO.none _)
      | (with_reducible refine LeO.ite ?_ ?_)
      | (with_reducible refine LeO.bind ?_ (fun _ => ?_))
      | exact ih0 _ _ _ _
      | exact spec_shown.mono _ _ _ _
      | exact LeO.none _
      | refine LeO.ite ?_ ?_
      | refine LeO.bind ?_ (fun _ => ?_)
set_option maxHeartbeats 8000000 in
set_option maxRecDepth 100000 in
theorem spec_Print.calls (k : Nat) (A0 : Option Addr) (c0 : Nat) (l0 : List (S33)) (r : ByteArray) (w : World) (hr0 : Kd.C k33 w A0 l0.length l0) (hc0 : l0.length ≤ c0) (h : spec_Print.f k l0 = some r) :
    Calls Tryd.prog 12 #[.slice A0 l0.length c0] w fun e w' => e = .returned (.string r) ∧ Below w.heap.size w w' := by
  have hu33 := Tryd.underlying33
  have HR0 := Aside0.mk hr0
  have HC0 := Aside0.mk hc0
  clear hr0 hc0
  have HB := Aside0.mk (Below.refl w.heap.size w)
  have H : (spec_Print.l0 k ([] : List ByteArray) l0 (l0.length : Int) 0) = some r := h
  clear h
  have H' := Aside0.mk H
  clear H
  go_enter Tryd.func12, Tryd.ntmps12
  go_wp2
  go_loopg [3, 8] k (fun kq v3 v8 w' => ∃ (x3_1 : List ByteArray) (x8_1 : Int), v8 = .int .i64 x8_1 ∧ Aside0 (spec_Print.l0 kq x3_1 l0 (l0.length : Int) x8_1 = some r) ∧ Aside0 (kq ≤ k) ∧ Aside0 (Kd.R Kd.string 9 w' w.heap.size (fun _ => True) v3 x3_1) ∧ Aside0 (Below w.heap.size w w'))
  case atStart => exact ⟨(([] : List ByteArray)), (0), (by first | rfl | (simp; done) | (simp [*]; done)), H', ⟨Nat.le_refl _⟩, ⟨by first | exact Kd.R_nil _ _ _ _ _ | exact Kd.N_nil _ _ _ _ _ | exact Kd.V_nil _ _ _ _ _ | exact Kd.Q_nil _ _ _ _ _ | exact Kd.S_nil _ _ _ _ _⟩, ⟨by repeat (first | (with_reducible first | exact HB.out | apply below_alloc | apply pw_below_drewN | apply below_drew1) | exact HB.out)⟩⟩
  case round =>
    clear H'
    try clear c1
    obtain ⟨x3_1, x8_1, rfl, HA, HK1, HO_3, HB⟩ := hrel
    cases gk with
    | zero => exact absurd HA.out (by simp [spec_Print.l0])
    | succ k1 =>
      have H := HA.out
      clear HA
      simp only [spec_Print.l0] at H
      by_cases c2 : x8_1 < (l0.length : Int)
      · rw [if_pos c2] at H
        have c2b0 : decide (x8_1 < (l0.length : Int)) = true := decide_eq_true c2
        clear c2
        by_cases c3 : 0 ≤ x8_1
        · rw [if_pos c3] at H
          have c3b0 : decide (0 ≤ x8_1) = true := decide_eq_true c3
          clear c3
          by_cases c4 : x8_1 < (l0.length : Int)
          · rw [if_pos c4] at H
            have c4b0 : decide (x8_1 < (l0.length : Int)) = true := decide_eq_true c4
            clear c4
            replace H := Option.bind_eq_some_iff.mp H
            obtain ⟨t311, A50, H⟩ := H
            replace H : (if x3_1.length < 8796093022208 then (spec_Print.l0 k1 (x3_1 ++ [t311]) l0 (l0.length : Int) (wrap64 (x8_1 + 1))) else (none)) = some r := H
            have A5 := Aside0.mk A50
            clear A50
            by_cases c6 : x3_1.length < 8796093022208
            · rw [if_pos c6] at H
              have LMc6 := Aside0.mk c6
              clear c6
              obtain ⟨y312, hy312⟩ : ∃ y_ : List ByteArray, y_ = (x3_1 ++ [t311]) := ⟨_, rfl⟩
              replace H : (spec_Print.l0 k1 y312 l0 (l0.length : Int) (wrap64 (x8_1 + 1))) = some r := by first | (rw [hy312]; with_reducible exact H) | (have H2_ := (Option.bind_some _ _).symm.trans H; rw [hy312]; with_reducible exact H2_) | (have H2_ := (Option.bind_some _ _).symm.trans H; with_reducible exact H2_) | with_reducible exact H | (rw [hy312]; exact H) | exact H
              have Ny312 := Aside0.mk hy312
              clear hy312
              have H' := Aside0.mk H
              clear H
              have p309 : 0 ≤ (x8_1 : Int) := of_decide_eq_true (by first | (with_reducible assumption) | assumption)
              have q309 : x8_1 < (l0.length : Int) := of_decide_eq_true (by first | (with_reducible assumption) | assumption)
              obtain ⟨ad309, e309, hx309_0, hx309_1, hx309_2⟩ := at_T33 HR0.out x8_1 p309 q309
              cases e309
              replace hx309_0 := (HB.out.cell (World.block_lt_of_cell? w _ hx309_0)).trans hx309_0
              replace hx309_1 := (HB.out.cell (World.block_lt_of_cell? w _ hx309_1)).trans hx309_1
              replace hx309_2 := (HB.out.cell (World.block_lt_of_cell? w _ hx309_2)).trans hx309_2
              replace p309 := eq_true p309
              replace q309 := eq_true q309
              go_wp2_with (first | ((with_reducible refine gate_dst (N := 5) rfl ?_); refine box_event ?hg (N := 5) ?hd (cs := #[.int .i64 0, .int .i64 0, .int .i64 0]) (t := 33) ?hr ?_; (case hd => rfl); (case hg => rfl); (case hr => first | (go_simp; done) | (go_simp; rfl)); intro gb310 hg w7 hbox hb; have n0_ := Aside0.mk (Kd.R_below (by (with_reducible repeat (first | apply Kd.R_alloc | apply Kd.R_drewN | apply Kd.R_drew)); exact HO_3.out) hb); have n1_ := Aside0.mk (below_step (by repeat (first | (with_reducible first | exact HB.out | apply below_alloc | apply pw_below_drewN | apply below_drew1) | exact HB.out)) hb); have n2_ := Aside0.mk (hbox); have n3_ := Aside0.mk ((by rw [hg]; exact (below_size (by repeat (first | (with_reducible first | exact HB.out | apply below_alloc | apply pw_below_drewN | apply below_drew1) | exact HB.out))) : w.heap.size ≤ gb310)); have n4_ := Aside0.mk ((by rw [hg]; exact (below_size (by repeat (first | (with_reducible first | exact HB.out | apply below_alloc | apply pw_below_drewN | apply below_drew1) | exact HB.out))) : w.heap.size ≤ gb310)); clear HO_3; clear HB; have HO_3 := n0_; have HB := n1_; have BK310 := n2_; have GW310 := n3_; have GE310 := n4_; clear n0_ n1_ n2_ n3_ n4_; clear hb hbox hg; have hcz8_0 : w7.cell? ⟨gb310, 0, none⟩ = some (.int .i64 0) := (blk_cell BK310.out 0).trans rfl; have hcz8_1 : w7.cell? ⟨gb310, 1, none⟩ = some (.int .i64 0) := (blk_cell BK310.out 1).trans rfl; have hcz8_2 : w7.cell? ⟨gb310, 2, none⟩ = some (.int .i64 0) := (blk_cell BK310.out 2).trans rfl; have hfz8_0 := blk_frozen BK310.out 0; have hfz8_1 := blk_frozen BK310.out 1; have hfz8_2 := blk_frozen BK310.out 2) | ((with_reducible refine gate_callee (f := 27) rfl ?_); refine goesL_ (some 14) rfl rfl Tryd.func27 (by kernel_rfl) rfl #[.agg #[.int .i64 ((rd_T33 l0 x8_1).f0), .int .i64 ((rd_T33 l0 x8_1).f1), .int .i64 ((rd_T33 l0 x8_1).f2)]] rfl (by (try simp only [List.map_toArray, List.map_cons, List.map_nil]); first | done | rfl | (simp only [List.length_drop, List.length_take]; rfl)) ?_; (with_reducible refine (spec_shown.calls k1 ((rd_T33 l0 x8_1).f0) ((rd_T33 l0 x8_1).f1) ((rd_T33 l0 x8_1).f2) t311 _ A5.out).mono ?_); rintro e w9 ⟨rfl, hb⟩; refine ⟨_, rfl, ?_⟩; have n0_ := Aside0.mk (Kd.R_below (by (with_reducible repeat (first | apply Kd.R_alloc | apply Kd.R_drewN | apply Kd.R_drew)); exact (Kd.R_mono (Kd.R_far (p := ⟨gb310, 2, none⟩) (Kd.R_far (p := ⟨gb310, 1, none⟩) (Kd.R_far (p := ⟨gb310, 0, none⟩) (Kd.R_types HO_3.out BK310.out (by decide)) (fun _ hk => hk.2) (.int .i64 ((rd_T33 l0 x8_1).f0))) (fun _ hk => hk.2) (.int .i64 ((rd_T33 l0 x8_1).f1))) (fun _ hk => hk.2) (.int .i64 ((rd_T33 l0 x8_1).f2))) (fun _ h_ => h_.1))) hb); have n1_ := Aside0.mk (blk_below (g := gb310) (o := .cells #[.int .i64 ((rd_T33 l0 x8_1).f0), .int .i64 ((rd_T33 l0 x8_1).f1), .int .i64 ((rd_T33 l0 x8_1).f2)] 33 (0, 0)) (by (with_reducible repeat (first | refine blk_drewN ?_ _ | refine blk_drew ?_ | refine blk_alloc ?_ _)); refine blk_put (cs := #[.int .i64 ((rd_T33 l0 x8_1).f0), .int .i64 ((rd_T33 l0 x8_1).f1), .int .i64 0]) ?_ 2 _ rfl; (with_reducible repeat (first | refine blk_drewN ?_ _ | refine blk_drew ?_ | refine blk_alloc ?_ _)); refine blk_put (cs := #[.int .i64 ((rd_T33 l0 x8_1).f0), .int .i64 0, .int .i64 0]) ?_ 1 _ rfl; (with_reducible repeat (first | refine blk_drewN ?_ _ | refine blk_drew ?_ | refine blk_alloc ?_ _)); refine blk_put (cs := #[.int .i64 0, .int .i64 0, .int .i64 0]) ?_ 0 _ rfl; (with_reducible repeat (first | refine blk_drewN ?_ _ | refine blk_drew ?_ | refine blk_alloc ?_ _)); exact BK310.out) hb); have n2_ := Aside0.mk (below_step (by repeat (first | (with_reducible first | exact HB.out | apply below_alloc | apply pw_below_drewN | apply below_drew1 | refine below_set ?_ GE310.out) | exact HB.out)) hb); clear HO_3; clear BK310; clear HB; have HO_3 := n0_; have BK310 := n1_; have HB := n2_; clear n0_ n1_ n2_; (try clear hb); (try clear hb2); (try clear hk); (try clear hi)) | ((with_reducible refine gate_builtin (b := .append) (xs := #[.tmp 12, .tmp 15]) rfl ?_); at_builtin; refine Kd.R_append Kd.string (w0 := w) w.heap.size rfl (.tmp 12) (.tmp 15) 45 9 (.string ⟨#[]⟩) 16 rfl Tryd.underlying45 info9 rfl (by decide) (by omega) u3 x3_1 t311 [.string t311] (fun _ => True) (fun _ => False) rfl rfl ?aP (fun _ hk => hk.elim) ?aF ?aO ?aB ?aS ?aL ?_; (case aP => exact rfl); (case aB => exact (by repeat (first | (with_reducible first | exact HB.out | apply below_alloc | apply pw_below_drewN | apply below_drew1 | refine below_set ?_ GE310.out) | exact HB.out))); (case aF => exact (fun _ _ => trivial)); (case aO => exact (by (with_reducible repeat (first | apply Kd.R_alloc | apply Kd.R_drewN | apply Kd.R_drew)); exact HO_3.out)); (case aS => exact (below_size (by repeat (first | (with_reducible first | exact HB.out | apply below_alloc | apply pw_below_drewN | apply below_drew1 | refine below_set ?_ GE310.out) | exact HB.out)))); (case aL => have := LMc6.out; omega); intro v313 w10 ho hb hg hat; rw [← Ny312.out] at ho; have n0_ := Aside0.mk (blk_grown (g := gb310) (o := .cells #[.int .i64 ((rd_T33 l0 x8_1).f0), .int .i64 ((rd_T33 l0 x8_1).f1), .int .i64 ((rd_T33 l0 x8_1).f2)] 33 (0, 0)) (by (with_reducible repeat (first | refine blk_drewN ?_ _ | refine blk_drew ?_ | refine blk_alloc ?_ _)); exact BK310.out) hg (Kd.R_ne HO_3.out BK310.out (by decide))); have n1_ := Aside0.mk (hb); have n2_ := Aside0.mk (ho); clear BK310; clear HB; clear HO_3; have BK310 := n0_; have HB := n1_; have HO314 := n2_; clear n0_ n1_ n2_; clear ho hb hg hat))
              go_roundg k1
              case measure => have := HK1.out; omega
              case rel => exact ⟨(y312), (wrap64 (x8_1 + 1)), (by first | rfl | (simp; done) | (simp [*]; done)), H', ⟨by have := HK1.out; omega⟩, ⟨by (with_reducible repeat (first | apply Kd.R_alloc | apply Kd.R_drewN | apply Kd.R_drew)); exact HO314.out⟩, ⟨by repeat (first | (with_reducible first | exact HB.out | apply below_alloc | apply pw_below_drewN | apply below_drew1 | refine below_set ?_ GE310.out) | exact HB.out)⟩⟩
            · rw [if_neg c6] at H
              exact absurd H (by simp)
          · rw [if_neg c4] at H
            exact absurd H (by simp)
        · rw [if_neg c3] at H
          exact absurd H (by simp)
      · rw [if_neg c2] at H
        have c2b0 : decide (x8_1 < (l0.length : Int)) = false := decide_eq_false c2
        clear c2
        replace H := Option.bind_eq_some_iff.mp H
        obtain ⟨t315, A110, H⟩ := H
        replace H : (if 6 + t315.size ≤ 9223372036854775807 then (some ((⟨#[98, 121, 116, 101, 115, 61]⟩ : ByteArray) ++ t315)) else (none)) = some r := H
        have A11 := Aside0.mk A110
        clear A110
        by_cases c12 : 6 + t315.size ≤ 9223372036854775807
        · rw [if_pos c12] at H
          have c12b0 := eq_true c12
          have c12b1 : decide (6 + t315.size ≤ 9223372036854775807) = true := decide_eq_true c12
          try have c12b2 : (9223372036854775807 < 6 + t315.size) = False := eq_false (Nat.not_lt.2 c12)
          obtain rfl := Option.some.inj H
          obtain ⟨Ao13, co13, eo13⟩ := Kd.R_slice HO_3.out
          subst eo13
          go_wp2_with (first | ((with_reducible refine gate_callee (f := 28) rfl ?_); refine goesL_ (some 19) rfl rfl Tryd.func28 (by kernel_rfl) rfl #[.slice Ao13 x3_1.length co13, .string (⟨#[44]⟩ : ByteArray)] rfl (by (try simp only [List.map_toArray, List.map_cons, List.map_nil]); first | done | rfl | (simp only [List.length_drop, List.length_take]; rfl)) ?_; (with_reducible refine (strings_Join.calls _ _ x3_1 (⟨#[44]⟩ : ByteArray) t315 _ ?side1 ?side2 A11.out).mono ?_); (case side1 => repeat (first | exact (Kd.R_reads' HO_3.out).2.2 | (with_reducible refine Kd.C_alloc ?_ _) | (with_reducible refine Kd.C_drewN ?_ _) | (with_reducible refine Kd.C_drew ?_))); (case side2 => exact (Kd.R_reads' HO_3.out).2.1); rintro e w14 ⟨rfl, hb⟩; refine ⟨_, rfl, ?_⟩; have n0_ := Aside0.mk (Kd.R_below (by (with_reducible repeat (first | apply Kd.R_alloc | apply Kd.R_drewN | apply Kd.R_drew)); exact HO_3.out) hb); have n1_ := Aside0.mk (below_step (by repeat (first | (with_reducible first | exact HB.out | apply below_alloc | apply pw_below_drewN | apply below_drew1) | exact HB.out)) hb); clear HO_3; clear HB; have HO_3 := n0_; have HB := n1_; clear n0_ n1_; (try clear hb); (try clear hb2); (try clear hk); (try clear hi)))
          go_ret
          exact ⟨by first | rfl | exact ne_empty _ | exact eq_empty _ | (simp [errW_none, errW_some] <;> rfl) | (simp [*, errW_none, errW_some] <;> rfl), by repeat (first | (with_reducible first | exact HB.out | apply below_alloc | apply pw_below_drewN | apply below_drew1) | exact HB.out)⟩
        · rw [if_neg c12] at H
          exact absurd H (by simp)
end Go.Proofs.YtndghocppadimaaDoor.PAll
namespace Go.Proofs.YtndghocppadimaaDoor.PAll
open Go.RowKit Go.Proofs.YtndghocppadimaaDoor.Xw Go.Proofs.YtndghocppadimaaDoorW.PrintWords Go.Proofs.YtndghocppadimaaDoorW.PrintLast Go.Proofs.YtndghocppadimaaDoorW.PrintMore
attribute [local go_sem] max2_int min2_int max_two min_two max_three min_three max_four min_four   -- for this text's walks alone
set_option linter.unusedVariables false
set_option linter.unusedSimpArgs false
mutual
def spencelaw05_SpecBack.j0 : Nat → List (S33) → Bool → Option (Bool)
  | 0, _, _ => none
  | k + 1, x0, x16 => if x16 = true then (some true) else (spencelaw05_SpecBack.l0 k x0 x0 (x0.length : Int) 0)
def spencelaw05_SpecBack.l0 : Nat → List (S33) → List (S33) → Int → Int → Option (Bool)
  | 0, _, _, _, _ => none
  | k + 1, x0, x17, x18, x19 => if x19 < x18 then (if 0 ≤ x19 then (if x19 < (x17.length : Int) then ((spenceref04_RightSpec.f k ((rd_T33 x17 x19).f0) ((rd_T33 x17 x19).f1) ((rd_T33 x17 x19).f2)).bind fun t319 => (if t319 = true then (spencelaw05_SpecBack.l0 k x0 x17 x18 (wrap64 (x19 + 1))) else (some true))) else (none)) else (none)) else ((spec_Print.f k x0).bind fun t320 => ((spec_Parse.f k t320).bind fun bt321 => (if (x0.length : Int) > 16 then (if bt321.2 = 10 then (some ((bt321.1.length : Int) == 0)) else (some false)) else (if bt321.2 = 0 then ((spencelaw05_same.f k bt321.1 x0).bind fun t325 => (some t325)) else (some false)))))
end
def spencelaw05_SpecBack.f (k : Nat) (l0 : List (S33)) : Option (Bool) := (spencelaw05_awake.f k).bind fun t316 => (if t316 = true then (if (l0.length : Int) = 0 then (spencelaw05_SpecBack.j0 k l0 true) else (spencelaw05_SpecBack.j0 k l0 (decide ((l0.length : Int) > 40)))) else (some false))
theorem spencelaw05_SpecBack.mono_l : ∀ k, (∀ y0 y1, LeO (spencelaw05_SpecBack.j0 k y0 y1) (spencelaw05_SpecBack.j0 (k + 1) y0 y1)) ∧ (∀ y0 y1 y2 y3, LeO (spencelaw05_SpecBack.l0 k y0 y1 y2 y3) (spencelaw05_SpecBack.l0 (k + 1) y0 y1 y2 y3))
  | 0 => ⟨fun _ _ r h => by simp [spencelaw05_SpecBack.j0] at h, fun _ _ _ _ r h => by simp [spencelaw05_SpecBack.l0] at h⟩
  | k + 1 => by
    obtain ⟨ih0, ih1⟩ := spencelaw05_SpecBack.mono_l k
    refine ⟨?_, ?_⟩
    · intro y0 y1
      unfold spencelaw05_SpecBack.j0
      repeat' first
      | (with_reducible exact ih0 _ _)
      | (with_reducible exact ih1 _ _ _ _)
      | (with_reducible exact spec_Parse.mono _ _)
      | (with_reducible exact spec_Print.mono _ _)
      | (with_reducible exact spencelaw05_awake.mono _)
      | (with_reducible exact spencelaw05_same.mono _ _ _)
      | (with_reducible exact spenceref04_RightSpec.mono _ _ _ _)
      | (with_reducible exact LeO.refl _)
      | (with_reducible exact LeO.none _)
      | (with_reducible refine LeO.ite ?_ ?_)
      | (with_reducible refine LeO.bind ?_ (fun _ => ?_))
      | exact ih0 _ _
      | exact ih1 _ _ _ _
      | exact spec_Parse.mono _ _
      | exact spec_Print.mono _ _
      | exact spencelaw05_awake.mono _
      | exact spencelaw05_same.mono _ _ _
      | exact spenceref04_RightSpec.mono _ _ _ _
      | exact LeO.none _
      | refine LeO.ite ?_ ?_
      | refine LeO.bind ?_ (fun _ => ?_)
    · intro y0 y1 y2 y3
      unfold spencelaw05_SpecBack.l0
      repeat' first
      | (with_reducible exact ih0 _ _)
      | (with_reducible exact ih1 _ _ _ _)
      | (with_reducible exact spec_Parse.mono _ _)
      | (with_reducible exact spec_Print.mono _ _)
      | (with_reducible exact spencelaw05_awake.mono _)
      | (with_reducible exact spencelaw05_same.mono _ _ _)
      | (with_reducible exact spenceref04_RightSpec.mono _ _ _ _)
      | (with_reducible exact LeO.refl _)
      | (with_reducible exact LeO.none _)
      | (with_reducible refine LeO.ite ?_ ?_)
      | (with_reducible refine LeO.bind ?_ (fun _ => ?_))
      | exact ih0 _ _
      | exact ih1 _ _ _ _
      | exact spec_Parse.mono _ _
      | exact spec_Print.mono _ _
      | exact spencelaw05_awake.mono _
      | exact spencelaw05_same.mono _ _ _
      | exact spenceref04_RightSpec.mono _ _ _ _
      | exact LeO.none _
      | refine LeO.ite ?_ ?_
      | refine LeO.bind ?_ (fun _ => ?_)
theorem spencelaw05_SpecBack.mono : ∀ a0 k, LeO (spencelaw05_SpecBack.f k a0) (spencelaw05_SpecBack.f (k + 1) a0) := by
  intro a0 k
  obtain ⟨ih0, ih1⟩ := spencelaw05_SpecBack.mono_l k
  unfold spencelaw05_SpecBack.f
  repeat' first
      | (with_reducible exact ih0 _ _)
      | (with_reducible exact ih1 _ _ _ _)
      | (with_reducible exact spec_Parse.mono _ _)
      | (with_reducible exact spec_Print.mono _ _)
      | (with_reducible exact spencelaw05_awake.mono _)
      | (with_reducible exact spencelaw05_same.mono _ _ _)
      | (with_reducible exact spenceref04_RightSpec.mono _ _ _ _)
      | (with_reducible exact LeO.refl _)
      | (with_reducible exact LeO.none _)
      | (with_reducible refine LeO.ite ?_ ?_)
      | (with_reducible refine LeO.bind ?_ (fun _ => ?_))
      | exact ih0 _ _
      | exact ih1 _ _ _ _
      | exact spec_Parse.mono _ _
      | exact spec_Print.mono _ _
      | exact spencelaw05_awake.mono _
      | exact spencelaw05_same.mono _ _ _
      | exact spenceref04_RightSpec.mono _ _ _ _
      | exact LeO.none _
      | refine LeO.ite ?_ ?_
      | refine LeO.bind ?_ (fun _ => ?_)
set_option maxHeartbeats 8000000 in
set_option maxRecDepth 100000 in
theorem spencelaw05_SpecBack.calls (k : Nat) (A0 : Option Addr) (c0 : Nat) (l0 : List (S33)) (r : Bool) (w : World) (hr0 : Kd.C k33 w A0 l0.length l0) (hc0 : l0.length ≤ c0) (h : spencelaw05_SpecBack.f k l0 = some r) :
    Calls Tryd.prog 4 #[.slice A0 l0.length c0] w fun e w' => e = .returned (.bool r) ∧ Below w.heap.size w w' := by
  have hu33 := Tryd.underlying33
  have HR0 := Aside0.mk hr0
  have HC0 := Aside0.mk hc0
  clear hr0 hc0
  have HB := Aside0.mk (Below.refl w.heap.size w)
  have H : ((spencelaw05_awake.f k).bind fun t316 => (if t316 = true then (if (l0.length : Int) = 0 then (spencelaw05_SpecBack.j0 k l0 true) else (spencelaw05_SpecBack.j0 k l0 (decide ((l0.length : Int) > 40)))) else (some false))) = some r := h
  clear h
  replace H := Option.bind_eq_some_iff.mp H
  obtain ⟨t316, A20, H⟩ := H
  replace H : (if t316 = true then (if (l0.length : Int) = 0 then (spencelaw05_SpecBack.j0 k l0 true) else (spencelaw05_SpecBack.j0 k l0 (decide ((l0.length : Int) > 40)))) else (some false)) = some r := H
  have A2 := Aside0.mk A20
  clear A20
  by_cases c3 : t316 = true
  · subst c3
    have H1 : (if (l0.length : Int) = 0 then (spencelaw05_SpecBack.j0 k l0 true) else (spencelaw05_SpecBack.j0 k l0 (decide ((l0.length : Int) > 40)))) = some r := by rw [if_pos rfl] at H; exact H
    clear H
    have H := H1
    clear H1
    have HC4 := Aside0.mk H
    clear H
    go_enter Tryd.func4, Tryd.ntmps4
    go_upto_region 3 with (first | ((with_reducible refine gate_callee (f := 6) rfl ?_); refine goesL_ (some 7) rfl rfl Tryd.func6 (by kernel_rfl) rfl #[] rfl (by (try simp only [List.map_toArray, List.map_cons, List.map_nil]); first | done | rfl | (simp only [List.length_drop, List.length_take]; rfl)) ?_; (with_reducible refine (spencelaw05_awake.calls k  true _ A2.out).mono ?_); rintro e w5 ⟨rfl, hb⟩; refine ⟨_, rfl, ?_⟩; have n0_ := Aside0.mk (below_step (by repeat (first | (with_reducible first | exact HB.out | apply below_alloc | apply pw_below_drewN | apply below_drew1) | exact HB.out)) hb); clear HB; have HB := n0_; clear n0_; (try clear hb); (try clear hb2); (try clear hk); (try clear hi)))
    (try simp only [Act.put, List.setIfInBounds_toArray, List.set_cons_zero, List.set_cons_succ])
    go_cut [16] (fun v16 wc => ∃ (kq : Nat) (x16_3 : Bool), v16 = .bool x16_3 ∧ Aside0 (spencelaw05_SpecBack.j0 kq l0 x16_3 = some r) ∧ Aside0 (kq ≤ k) ∧ Aside0 (Below w.heap.size w wc))
    case first =>
      have H := HC4.out
      clear HC4
      by_cases c6 : (l0.length : Int) = 0
      · rw [if_pos c6] at H
        have c6b0 : ((l0.length : Int) == 0) = true := beq_iff_eq.mpr c6
        have c6b1 : ((l0.length : Int) != 0) = false := bne_eq_false_iff_eq.mpr c6
        clear c6
        (first | rw [c6b0] | (simp only [i64_w, i32_w]; rw [c6b0]) | skip)
        have H' := Aside0.mk H
        clear H
        go_wp2
        go_meet
        case rel => exact ⟨_, (true), (by first | rfl | (simp; done) | (simp [*]; done)), H', ⟨by first | omega | exact Nat.le_refl _⟩, ⟨by repeat (first | (with_reducible first | exact HB.out | apply below_alloc | apply pw_below_drewN | apply below_drew1) | exact HB.out)⟩⟩
      · rw [if_neg c6] at H
        have c6b0 : ((l0.length : Int) == 0) = false := beq_eq_false_iff_ne.mpr c6
        have c6b1 : ((l0.length : Int) != 0) = true := bne_iff_ne.mpr c6
        have c6b2 : ¬ (l0 = []) := fun h_ => c6 (by rw [h_]; rfl)
        (first | rw [c6b0] | (simp only [i64_w, i32_w]; rw [c6b0]) | skip)
        have H' := Aside0.mk H
        clear H
        go_wp2
        go_meet
        case rel => exact ⟨_, (decide ((l0.length : Int) > 40)), (by first | rfl | (simp; done) | (simp [*]; done)), H', ⟨by first | omega | exact Nat.le_refl _⟩, ⟨by repeat (first | (with_reducible first | exact HB.out | apply below_alloc | apply pw_below_drewN | apply below_drew1) | exact HB.out)⟩⟩
    case rest =>
      clear HC4
      try clear p2
      try clear c3
      try clear c4
      try clear c6
      try clear c6b0
      try clear c6b1
      try clear c6b2
      obtain ⟨kq, x16_3, rfl, HA, HJ3, HB⟩ := hcut
      cases kq with
      | zero => exact absurd HA.out (by simp [spencelaw05_SpecBack.j0])
      | succ kj3 =>
        have H := HA.out
        clear HA
        simp only [spencelaw05_SpecBack.j0] at H
        by_cases c7 : x16_3 = true
        · subst c7
          have H1 : (some true) = some r := by rw [if_pos rfl] at H; exact H
          clear H
          have H := H1
          clear H1
          obtain rfl := Option.some.inj H
          go_wp2
          go_ret
          exact ⟨by first | rfl | exact ne_empty _ | exact eq_empty _ | (simp [errW_none, errW_some] <;> rfl) | (simp [*, errW_none, errW_some] <;> rfl), by repeat (first | (with_reducible first | exact HB.out | apply below_alloc | apply pw_below_drewN | apply below_drew1) | exact HB.out)⟩
        · replace c7 := Bool.eq_false_iff.mpr c7
          subst c7
          have H1 : (spencelaw05_SpecBack.l0 kj3 l0 l0 (l0.length : Int) 0) = some r := by rw [if_neg (show ¬ (false = true) by decide)] at H; exact H
          clear H
          have H := H1
          clear H1
          have H' := Aside0.mk H
          clear H
          go_wp2
          go_loopg [19] kj3 (fun kq v19 w' => ∃ (x19_2 : Int), v19 = .int .i64 x19_2 ∧ Aside0 (spencelaw05_SpecBack.l0 kq l0 l0 (l0.length : Int) x19_2 = some r) ∧ Aside0 (kq ≤ kj3) ∧ Aside0 (Below w.heap.size w w'))
          case atStart => exact ⟨(0), (by first | rfl | (simp; done) | (simp [*]; done)), H', ⟨Nat.le_refl _⟩, ⟨by repeat (first | (with_reducible first | exact HB.out | apply below_alloc | apply pw_below_drewN | apply below_drew1) | exact HB.out)⟩⟩
          case round =>
            clear H'
            try clear p2
            try clear c3
            try clear c4
            try clear c6
            try clear c6b0
            try clear c6b1
            try clear c6b2
            try clear c7
            try clear p2
            obtain ⟨x19_2, rfl, HA, HK2, HB⟩ := hrel
            cases gk with
            | zero => exact absurd HA.out (by simp [spencelaw05_SpecBack.l0])
            | succ k2 =>
              have H := HA.out
              clear HA
              simp only [spencelaw05_SpecBack.l0] at H
              by_cases c8 : x19_2 < (l0.length : Int)
              · rw [if_pos c8] at H
                have c8b0 : decide (x19_2 < (l0.length : Int)) = true := decide_eq_true c8
                clear c8
                by_cases c9 : 0 ≤ x19_2
                · rw [if_pos c9] at H
                  have c9b0 : decide (0 ≤ x19_2) = true := decide_eq_true c9
                  clear c9
                  by_cases c10 : x19_2 < (l0.length : Int)
                  · rw [if_pos c10] at H
                    have c10b0 : decide (x19_2 < (l0.length : Int)) = true := decide_eq_true c10
                    clear c10
                    replace H := Option.bind_eq_some_iff.mp H
                    obtain ⟨t319, A110, H⟩ := H
                    replace H : (if t319 = true then (spencelaw05_SpecBack.l0 k2 l0 l0 (l0.length : Int) (wrap64 (x19_2 + 1))) else (some true)) = some r := H
                    have A11 := Aside0.mk A110
                    clear A110
                    by_cases c12 : t319 = true
                    · subst c12
                      have H1 : (spencelaw05_SpecBack.l0 k2 l0 l0 (l0.length : Int) (wrap64 (x19_2 + 1))) = some r := by rw [if_pos rfl] at H; exact H
                      clear H
                      have H := H1
                      clear H1
                      have H' := Aside0.mk H
                      clear H
                      have p317 : 0 ≤ (x19_2 : Int) := of_decide_eq_true (by first | (with_reducible assumption) | assumption)
                      have q317 : x19_2 < (l0.length : Int) := of_decide_eq_true (by first | (with_reducible assumption) | assumption)
                      obtain ⟨ad317, e317, hx317_0, hx317_1, hx317_2⟩ := at_T33 HR0.out x19_2 p317 q317
                      cases e317
                      replace hx317_0 := (HB.out.cell (World.block_lt_of_cell? w _ hx317_0)).trans hx317_0
                      replace hx317_1 := (HB.out.cell (World.block_lt_of_cell? w _ hx317_1)).trans hx317_1
                      replace hx317_2 := (HB.out.cell (World.block_lt_of_cell? w _ hx317_2)).trans hx317_2
                      replace p317 := eq_true p317
                      replace q317 := eq_true q317
                      go_wp2_with (first | ((with_reducible refine gate_dst (N := 4) rfl ?_); (try (refine gate_guard (by rfl) ?_; dsimp only)); refine box_event ?hg (N := 4) ?hd (cs := #[.int .i64 0, .int .i64 0, .int .i64 0]) (t := 33) ?hr ?_; (case hd => rfl); (case hg => rfl); (case hr => first | (go_simp; done) | (go_simp; rfl)); intro gb318 hg w13 hbox hb; have n0_ := Aside0.mk (below_step (by repeat (first | (with_reducible first | exact HB.out | apply below_alloc | apply pw_below_drewN | apply below_drew1) | exact HB.out)) hb); have n1_ := Aside0.mk (hbox); have n2_ := Aside0.mk ((by rw [hg]; exact (below_size (by repeat (first | (with_reducible first | exact HB.out | apply below_alloc | apply pw_below_drewN | apply below_drew1) | exact HB.out))) : w.heap.size ≤ gb318)); have n3_ := Aside0.mk ((by rw [hg]; exact (below_size (by repeat (first | (with_reducible first | exact HB.out | apply below_alloc | apply pw_below_drewN | apply below_drew1) | exact HB.out))) : w.heap.size ≤ gb318)); clear HB; have HB := n0_; have BK318 := n1_; have GW318 := n2_; have GE318 := n3_; clear n0_ n1_ n2_ n3_; clear hb hbox hg; have hcz14_0 : w13.cell? ⟨gb318, 0, none⟩ = some (.int .i64 0) := (blk_cell BK318.out 0).trans rfl; have hcz14_1 : w13.cell? ⟨gb318, 1, none⟩ = some (.int .i64 0) := (blk_cell BK318.out 1).trans rfl; have hcz14_2 : w13.cell? ⟨gb318, 2, none⟩ = some (.int .i64 0) := (blk_cell BK318.out 2).trans rfl; have hfz14_0 := blk_frozen BK318.out 0; have hfz14_1 := blk_frozen BK318.out 1; have hfz14_2 := blk_frozen BK318.out 2) | ((with_reducible refine gate_callee (f := 11) rfl ?_); refine goesL_ (some 24) rfl rfl Tryd.func11 (by kernel_rfl) rfl #[.agg #[.int .i64 ((rd_T33 l0 x19_2).f0), .int .i64 ((rd_T33 l0 x19_2).f1), .int .i64 ((rd_T33 l0 x19_2).f2)]] rfl (by (try simp only [List.map_toArray, List.map_cons, List.map_nil]); first | done | rfl | (simp only [List.length_drop, List.length_take]; rfl)) ?_; (with_reducible refine (spenceref04_RightSpec.calls k2 ((rd_T33 l0 x19_2).f0) ((rd_T33 l0 x19_2).f1) ((rd_T33 l0 x19_2).f2) true _ A11.out).mono ?_); rintro e w15 ⟨rfl, hb⟩; refine ⟨_, rfl, ?_⟩; have n0_ := Aside0.mk (blk_below (g := gb318) (o := .cells #[.int .i64 ((rd_T33 l0 x19_2).f0), .int .i64 ((rd_T33 l0 x19_2).f1), .int .i64 ((rd_T33 l0 x19_2).f2)] 33 (0, 0)) (by (with_reducible repeat (first | refine blk_drewN ?_ _ | refine blk_drew ?_ | refine blk_alloc ?_ _)); refine blk_put (cs := #[.int .i64 ((rd_T33 l0 x19_2).f0), .int .i64 ((rd_T33 l0 x19_2).f1), .int .i64 0]) ?_ 2 _ rfl; (with_reducible repeat (first | refine blk_drewN ?_ _ | refine blk_drew ?_ | refine blk_alloc ?_ _)); refine blk_put (cs := #[.int .i64 ((rd_T33 l0 x19_2).f0), .int .i64 0, .int .i64 0]) ?_ 1 _ rfl; (with_reducible repeat (first | refine blk_drewN ?_ _ | refine blk_drew ?_ | refine blk_alloc ?_ _)); refine blk_put (cs := #[.int .i64 0, .int .i64 0, .int .i64 0]) ?_ 0 _ rfl; (with_reducible repeat (first | refine blk_drewN ?_ _ | refine blk_drew ?_ | refine blk_alloc ?_ _)); exact BK318.out) hb); have n1_ := Aside0.mk (below_step (by repeat (first | (with_reducible first | exact HB.out | apply below_alloc | apply pw_below_drewN | apply below_drew1 | refine below_set ?_ GE318.out) | exact HB.out)) hb); clear BK318; clear HB; have BK318 := n0_; have HB := n1_; clear n0_ n1_; (try clear hb); (try clear hb2); (try clear hk); (try clear hi)))
                      go_roundg k2
                      case measure => have := HJ3.out; have := HK2.out; omega
                      case rel => exact ⟨(wrap64 (x19_2 + 1)), (by first | rfl | (simp; done) | (simp [*]; done)), H', ⟨by have := HJ3.out; have := HK2.out; omega⟩, ⟨by repeat (first | (with_reducible first | exact HB.out | apply below_alloc | apply pw_below_drewN | apply below_drew1 | refine below_set ?_ GE318.out) | exact HB.out)⟩⟩
                    · replace c12 := Bool.eq_false_iff.mpr c12
                      subst c12
                      have H1 : (some true) = some r := by rw [if_neg (show ¬ (false = true) by decide)] at H; exact H
                      clear H
                      have H := H1
                      clear H1
                      obtain rfl := Option.some.inj H
                      have p317 : 0 ≤ (x19_2 : Int) := of_decide_eq_true (by first | (with_reducible assumption) | assumption)
                      have q317 : x19_2 < (l0.length : Int) := of_decide_eq_true (by first | (with_reducible assumption) | assumption)
                      obtain ⟨ad317, e317, hx317_0, hx317_1, hx317_2⟩ := at_T33 HR0.out x19_2 p317 q317
                      cases e317
                      replace hx317_0 := (HB.out.cell (World.block_lt_of_cell? w _ hx317_0)).trans hx317_0
                      replace hx317_1 := (HB.out.cell (World.block_lt_of_cell? w _ hx317_1)).trans hx317_1
                      replace hx317_2 := (HB.out.cell (World.block_lt_of_cell? w _ hx317_2)).trans hx317_2
                      replace p317 := eq_true p317
                      replace q317 := eq_true q317
                      go_wp2_with (first | ((with_reducible refine gate_dst (N := 4) rfl ?_); (try (refine gate_guard (by rfl) ?_; dsimp only)); refine box_event ?hg (N := 4) ?hd (cs := #[.int .i64 0, .int .i64 0, .int .i64 0]) (t := 33) ?hr ?_; (case hd => rfl); (case hg => rfl); (case hr => first | (go_simp; done) | (go_simp; rfl)); intro gb318 hg w16 hbox hb; have n0_ := Aside0.mk (below_step (by repeat (first | (with_reducible first | exact HB.out | apply below_alloc | apply pw_below_drewN | apply below_drew1) | exact HB.out)) hb); have n1_ := Aside0.mk (hbox); have n2_ := Aside0.mk ((by rw [hg]; exact (below_size (by repeat (first | (with_reducible first | exact HB.out | apply below_alloc | apply pw_below_drewN | apply below_drew1) | exact HB.out))) : w.heap.size ≤ gb318)); have n3_ := Aside0.mk ((by rw [hg]; exact (below_size (by repeat (first | (with_reducible first | exact HB.out | apply below_alloc | apply pw_below_drewN | apply below_drew1) | exact HB.out))) : w.heap.size ≤ gb318)); clear HB; have HB := n0_; have BK318 := n1_; have GW318 := n2_; have GE318 := n3_; clear n0_ n1_ n2_ n3_; clear hb hbox hg; have hcz17_0 : w16.cell? ⟨gb318, 0, none⟩ = some (.int .i64 0) := (blk_cell BK318.out 0).trans rfl; have hcz17_1 : w16.cell? ⟨gb318, 1, none⟩ = some (.int .i64 0) := (blk_cell BK318.out 1).trans rfl; have hcz17_2 : w16.cell? ⟨gb318, 2, none⟩ = some (.int .i64 0) := (blk_cell BK318.out 2).trans rfl; have hfz17_0 := blk_frozen BK318.out 0; have hfz17_1 := blk_frozen BK318.out 1; have hfz17_2 := blk_frozen BK318.out 2) | ((with_reducible refine gate_callee (f := 11) rfl ?_); refine goesL_ (some 24) rfl rfl Tryd.func11 (by kernel_rfl) rfl #[.agg #[.int .i64 ((rd_T33 l0 x19_2).f0), .int .i64 ((rd_T33 l0 x19_2).f1), .int .i64 ((rd_T33 l0 x19_2).f2)]] rfl (by (try simp only [List.map_toArray, List.map_cons, List.map_nil]); first | done | rfl | (simp only [List.length_drop, List.length_take]; rfl)) ?_; (with_reducible refine (spenceref04_RightSpec.calls k2 ((rd_T33 l0 x19_2).f0) ((rd_T33 l0 x19_2).f1) ((rd_T33 l0 x19_2).f2) false _ A11.out).mono ?_); rintro e w18 ⟨rfl, hb⟩; refine ⟨_, rfl, ?_⟩; have n0_ := Aside0.mk (blk_below (g := gb318) (o := .cells #[.int .i64 ((rd_T33 l0 x19_2).f0), .int .i64 ((rd_T33 l0 x19_2).f1), .int .i64 ((rd_T33 l0 x19_2).f2)] 33 (0, 0)) (by (with_reducible repeat (first | refine blk_drewN ?_ _ | refine blk_drew ?_ | refine blk_alloc ?_ _)); refine blk_put (cs := #[.int .i64 ((rd_T33 l0 x19_2).f0), .int .i64 ((rd_T33 l0 x19_2).f1), .int .i64 0]) ?_ 2 _ rfl; (with_reducible repeat (first | refine blk_drewN ?_ _ | refine blk_drew ?_ | refine blk_alloc ?_ _)); refine blk_put (cs := #[.int .i64 ((rd_T33 l0 x19_2).f0), .int .i64 0, .int .i64 0]) ?_ 1 _ rfl; (with_reducible repeat (first | refine blk_drewN ?_ _ | refine blk_drew ?_ | refine blk_alloc ?_ _)); refine blk_put (cs := #[.int .i64 0, .int .i64 0, .int .i64 0]) ?_ 0 _ rfl; (with_reducible repeat (first | refine blk_drewN ?_ _ | refine blk_drew ?_ | refine blk_alloc ?_ _)); exact BK318.out) hb); have n1_ := Aside0.mk (below_step (by repeat (first | (with_reducible first | exact HB.out | apply below_alloc | apply pw_below_drewN | apply below_drew1 | refine below_set ?_ GE318.out) | exact HB.out)) hb); clear BK318; clear HB; have BK318 := n0_; have HB := n1_; clear n0_ n1_; (try clear hb); (try clear hb2); (try clear hk); (try clear hi)))
                      go_ret
                      exact ⟨by first | rfl | exact ne_empty _ | exact eq_empty _ | (simp [errW_none, errW_some] <;> rfl) | (simp [*, errW_none, errW_some] <;> rfl), by repeat (first | (with_reducible first | exact HB.out | apply below_alloc | apply pw_below_drewN | apply below_drew1 | refine below_set ?_ GE318.out) | exact HB.out)⟩
                  · rw [if_neg c10] at H
                    exact absurd H (by simp)
                · rw [if_neg c9] at H
                  exact absurd H (by simp)
              · rw [if_neg c8] at H
                have c8b0 : decide (x19_2 < (l0.length : Int)) = false := decide_eq_false c8
                clear c8
                replace H := Option.bind_eq_some_iff.mp H
                obtain ⟨t320, A190, H⟩ := H
                replace H : ((spec_Parse.f k2 t320).bind fun bt321 => (if (l0.length : Int) > 16 then (if bt321.2 = 10 then (some ((bt321.1.length : Int) == 0)) else (some false)) else (if bt321.2 = 0 then ((spencelaw05_same.f k2 bt321.1 l0).bind fun t325 => (some t325)) else (some false)))) = some r := H
                have A19 := Aside0.mk A190
                clear A190
                replace H := Option.bind_eq_some_iff.mp H
                obtain ⟨⟨t321, t322⟩, A200, H⟩ := H
                replace H : (if (l0.length : Int) > 16 then (if t322 = 10 then (some ((t321.length : Int) == 0)) else (some false)) else (if t322 = 0 then ((spencelaw05_same.f k2 t321 l0).bind fun t325 => (some t325)) else (some false))) = some r := H
                have A20 := Aside0.mk A200
                clear A200
                by_cases c21 : (l0.length : Int) > 16
                · rw [if_pos c21] at H
                  have c21b0 : decide (16 < (l0.length : Int)) = true := decide_eq_true c21
                  have c21b1 : decide (16 < l0.length) = true := decide_eq_true (by omega)
                  clear c21
                  by_cases c22 : t322 = 10
                  · rw [if_pos c22] at H
                    have c22b0 : (t322 == 10) = true := beq_iff_eq.mpr c22
                    have c22b1 : (t322 != 10) = false := bne_eq_false_iff_eq.mpr c22
                    clear c22
                    obtain rfl := Option.some.inj H
                    go_wp2_with (first | ((with_reducible refine gate_callee (f := 12) rfl ?_); refine goesL_ (some 29) rfl rfl Tryd.func12 (by kernel_rfl) rfl #[.slice A0 l0.length c0] rfl (by (try simp only [List.map_toArray, List.map_cons, List.map_nil]); first | done | rfl | (simp only [List.length_drop, List.length_take]; rfl)) ?_; (with_reducible refine (spec_Print.calls k2 _ _ l0 t320 _ ?side1 ?side2 A19.out).mono ?_); (case side1 => repeat (first | exact (Kd.C_below HR0.out HB.out) | (with_reducible refine Kd.C_alloc ?_ _) | (with_reducible refine Kd.C_drewN ?_ _) | (with_reducible refine Kd.C_drew ?_))); (case side2 => exact HC0.out); rintro e w23 ⟨rfl, hb⟩; refine ⟨_, rfl, ?_⟩; have n0_ := Aside0.mk (below_step (by repeat (first | (with_reducible first | exact HB.out | apply below_alloc | apply pw_below_drewN | apply below_drew1) | exact HB.out)) hb); clear HB; have HB := n0_; clear n0_; (try clear hb); (try clear hb2); (try clear hk); (try clear hi)) | ((with_reducible refine gate_callee (f := 7) rfl ?_); refine goesL_ (some 30) rfl rfl Tryd.func7 (by kernel_rfl) rfl #[.string t320] rfl (by (try simp only [List.map_toArray, List.map_cons, List.map_nil]); first | done | rfl | (simp only [List.length_drop, List.length_take]; rfl)) ?_; (with_reducible refine (spec_Parse.calls k2 t320 t321 t322 _ A20.out).mono ?_); rintro e w24 ⟨v323, rfl, ho0, hb⟩; refine ⟨_, rfl, ?_⟩; have n0_ := Aside0.mk (Kd.R_lower ho0 (below_size (by repeat (first | (with_reducible first | exact HB.out | apply below_alloc | apply pw_below_drewN | apply below_drew1) | exact HB.out)))); have n1_ := Aside0.mk (below_step (by repeat (first | (with_reducible first | exact HB.out | apply below_alloc | apply pw_below_drewN | apply below_drew1) | exact HB.out)) hb); clear HB; have HO324 := n0_; have HB := n1_; clear n0_ n1_; (try clear hb); (try clear hb2); (try clear hk); (try clear hi); (try clear ho0); obtain ⟨Ao25, co25, eo25⟩ := Kd.R_slice HO324.out; subst eo25))
                    go_ret
                    exact ⟨by first | rfl | exact ne_empty _ | exact eq_empty _ | (simp [errW_none, errW_some] <;> rfl) | (simp [*, errW_none, errW_some] <;> rfl), by repeat (first | (with_reducible first | exact HB.out | apply below_alloc | apply pw_below_drewN | apply below_drew1) | exact HB.out)⟩
                  · rw [if_neg c22] at H
                    have c22b0 : (t322 == 10) = false := beq_eq_false_iff_ne.mpr c22
                    have c22b1 : (t322 != 10) = true := bne_iff_ne.mpr c22
                    obtain rfl := Option.some.inj H
                    go_wp2_with (first | ((with_reducible refine gate_callee (f := 12) rfl ?_); refine goesL_ (some 29) rfl rfl Tryd.func12 (by kernel_rfl) rfl #[.slice A0 l0.length c0] rfl (by (try simp only [List.map_toArray, List.map_cons, List.map_nil]); first | done | rfl | (simp only [List.length_drop, List.length_take]; rfl)) ?_; (with_reducible refine (spec_Print.calls k2 _ _ l0 t320 _ ?side1 ?side2 A19.out).mono ?_); (case side1 => repeat (first | exact (Kd.C_below HR0.out HB.out) | (with_reducible refine Kd.C_alloc ?_ _) | (with_reducible refine Kd.C_drewN ?_ _) | (with_reducible refine Kd.C_drew ?_))); (case side2 => exact HC0.out); rintro e w26 ⟨rfl, hb⟩; refine ⟨_, rfl, ?_⟩; have n0_ := Aside0.mk (below_step (by repeat (first | (with_reducible first | exact HB.out | apply below_alloc | apply pw_below_drewN | apply below_drew1) | exact HB.out)) hb); clear HB; have HB := n0_; clear n0_; (try clear hb); (try clear hb2); (try clear hk); (try clear hi)) | ((with_reducible refine gate_callee (f := 7) rfl ?_); refine goesL_ (some 30) rfl rfl Tryd.func7 (by kernel_rfl) rfl #[.string t320] rfl (by (try simp only [List.map_toArray, List.map_cons, List.map_nil]); first | done | rfl | (simp only [List.length_drop, List.length_take]; rfl)) ?_; (with_reducible refine (spec_Parse.calls k2 t320 t321 t322 _ A20.out).mono ?_); rintro e w27 ⟨v323, rfl, ho0, hb⟩; refine ⟨_, rfl, ?_⟩; have n0_ := Aside0.mk (Kd.R_lower ho0 (below_size (by repeat (first | (with_reducible first | exact HB.out | apply below_alloc | apply pw_below_drewN | apply below_drew1) | exact HB.out)))); have n1_ := Aside0.mk (below_step (by repeat (first | (with_reducible first | exact HB.out | apply below_alloc | apply pw_below_drewN | apply below_drew1) | exact HB.out)) hb); clear HB; have HO324 := n0_; have HB := n1_; clear n0_ n1_; (try clear hb); (try clear hb2); (try clear hk); (try clear hi); (try clear ho0)))
                    go_ret
                    exact ⟨by first | rfl | exact ne_empty _ | exact eq_empty _ | (simp [errW_none, errW_some] <;> rfl) | (simp [*, errW_none, errW_some] <;> rfl), by repeat (first | (with_reducible first | exact HB.out | apply below_alloc | apply pw_below_drewN | apply below_drew1) | exact HB.out)⟩
                · rw [if_neg c21] at H
                  have c21b0 : decide (16 < (l0.length : Int)) = false := decide_eq_false c21
                  have c21b1 : decide (16 < l0.length) = false := decide_eq_false (by omega)
                  clear c21
                  by_cases c28 : t322 = 0
                  · rw [if_pos c28] at H
                    have c28b0 : (t322 == 0) = true := beq_iff_eq.mpr c28
                    have c28b1 : (t322 != 0) = false := bne_eq_false_iff_eq.mpr c28
                    clear c28
                    replace H := Option.bind_eq_some_iff.mp H
                    obtain ⟨t325, A290, H⟩ := H
                    replace H : (some t325) = some r := H
                    have A29 := Aside0.mk A290
                    clear A290
                    obtain rfl := Option.some.inj H
                    go_wp2_with (first | ((with_reducible refine gate_callee (f := 12) rfl ?_); refine goesL_ (some 29) rfl rfl Tryd.func12 (by kernel_rfl) rfl #[.slice A0 l0.length c0] rfl (by (try simp only [List.map_toArray, List.map_cons, List.map_nil]); first | done | rfl | (simp only [List.length_drop, List.length_take]; rfl)) ?_; (with_reducible refine (spec_Print.calls k2 _ _ l0 t320 _ ?side1 ?side2 A19.out).mono ?_); (case side1 => repeat (first | exact (Kd.C_below HR0.out HB.out) | (with_reducible refine Kd.C_alloc ?_ _) | (with_reducible refine Kd.C_drewN ?_ _) | (with_reducible refine Kd.C_drew ?_))); (case side2 => exact HC0.out); rintro e w30 ⟨rfl, hb⟩; refine ⟨_, rfl, ?_⟩; have n0_ := Aside0.mk (below_step (by repeat (first | (with_reducible first | exact HB.out | apply below_alloc | apply pw_below_drewN | apply below_drew1) | exact HB.out)) hb); clear HB; have HB := n0_; clear n0_; (try clear hb); (try clear hb2); (try clear hk); (try clear hi)) | ((with_reducible refine gate_callee (f := 7) rfl ?_); refine goesL_ (some 30) rfl rfl Tryd.func7 (by kernel_rfl) rfl #[.string t320] rfl (by (try simp only [List.map_toArray, List.map_cons, List.map_nil]); first | done | rfl | (simp only [List.length_drop, List.length_take]; rfl)) ?_; (with_reducible refine (spec_Parse.calls k2 t320 t321 t322 _ A20.out).mono ?_); rintro e w31 ⟨v323, rfl, ho0, hb⟩; refine ⟨_, rfl, ?_⟩; have n0_ := Aside0.mk (Kd.R_lower ho0 (below_size (by repeat (first | (with_reducible first | exact HB.out | apply below_alloc | apply pw_below_drewN | apply below_drew1) | exact HB.out)))); have n1_ := Aside0.mk (below_step (by repeat (first | (with_reducible first | exact HB.out | apply below_alloc | apply pw_below_drewN | apply below_drew1) | exact HB.out)) hb); clear HB; have HO324 := n0_; have HB := n1_; clear n0_ n1_; (try clear hb); (try clear hb2); (try clear hk); (try clear hi); (try clear ho0); obtain ⟨Ao32, co32, eo32⟩ := Kd.R_slice HO324.out; subst eo32) | (go_at_call 9; (with_reducible refine (spencelaw05_same.calls k2 _ _ t321 _ _ l0 t325 _ ?side1 ?side2 ?side3 ?side4 A29.out).mono ?_); (case side1 => repeat (first | exact (Kd.R_reads' HO324.out).2.2 | (with_reducible refine Kd.C_alloc ?_ _) | (with_reducible refine Kd.C_drewN ?_ _) | (with_reducible refine Kd.C_drew ?_))); (case side2 => exact (Kd.R_reads' HO324.out).2.1); (case side3 => repeat (first | exact (Kd.C_below HR0.out HB.out) | (with_reducible refine Kd.C_alloc ?_ _) | (with_reducible refine Kd.C_drewN ?_ _) | (with_reducible refine Kd.C_drew ?_))); (case side4 => exact HC0.out); rintro e w' ⟨rfl, ⟨nd, rfl⟩⟩))
                    go_ret
                    exact ⟨by first | rfl | exact ne_empty _ | exact eq_empty _ | (simp [errW_none, errW_some] <;> rfl) | (simp [*, errW_none, errW_some] <;> rfl), by repeat (first | (with_reducible first | exact HB.out | apply below_alloc | apply pw_below_drewN | apply below_drew1) | exact HB.out)⟩
                  · rw [if_neg c28] at H
                    have c28b0 : (t322 == 0) = false := beq_eq_false_iff_ne.mpr c28
                    have c28b1 : (t322 != 0) = true := bne_iff_ne.mpr c28
                    obtain rfl := Option.some.inj H
                    go_wp2_with (first | ((with_reducible refine gate_callee (f := 12) rfl ?_); refine goesL_ (some 29) rfl rfl Tryd.func12 (by kernel_rfl) rfl #[.slice A0 l0.length c0] rfl (by (try simp only [List.map_toArray, List.map_cons, List.map_nil]); first | done | rfl | (simp only [List.length_drop, List.length_take]; rfl)) ?_; (with_reducible refine (spec_Print.calls k2 _ _ l0 t320 _ ?side1 ?side2 A19.out).mono ?_); (case side1 => repeat (first | exact (Kd.C_below HR0.out HB.out) | (with_reducible refine Kd.C_alloc ?_ _) | (with_reducible refine Kd.C_drewN ?_ _) | (with_reducible refine Kd.C_drew ?_))); (case side2 => exact HC0.out); rintro e w33 ⟨rfl, hb⟩; refine ⟨_, rfl, ?_⟩; have n0_ := Aside0.mk (below_step (by repeat (first | (with_reducible first | exact HB.out | apply below_alloc | apply pw_below_drewN | apply below_drew1) | exact HB.out)) hb); clear HB; have HB := n0_; clear n0_; (try clear hb); (try clear hb2); (try clear hk); (try clear hi)) | ((with_reducible refine gate_callee (f := 7) rfl ?_); refine goesL_ (some 30) rfl rfl Tryd.func7 (by kernel_rfl) rfl #[.string t320] rfl (by (try simp only [List.map_toArray, List.map_cons, List.map_nil]); first | done | rfl | (simp only [List.length_drop, List.length_take]; rfl)) ?_; (with_reducible refine (spec_Parse.calls k2 t320 t321 t322 _ A20.out).mono ?_); rintro e w34 ⟨v323, rfl, ho0, hb⟩; refine ⟨_, rfl, ?_⟩; have n0_ := Aside0.mk (Kd.R_lower ho0 (below_size (by repeat (first | (with_reducible first | exact HB.out | apply below_alloc | apply pw_below_drewN | apply below_drew1) | exact HB.out)))); have n1_ := Aside0.mk (below_step (by repeat (first | (with_reducible first | exact HB.out | apply below_alloc | apply pw_below_drewN | apply below_drew1) | exact HB.out)) hb); clear HB; have HO324 := n0_; have HB := n1_; clear n0_ n1_; (try clear hb); (try clear hb2); (try clear hk); (try clear hi); (try clear ho0)))
                    go_ret
                    exact ⟨by first | rfl | exact ne_empty _ | exact eq_empty _ | (simp [errW_none, errW_some] <;> rfl) | (simp [*, errW_none, errW_some] <;> rfl), by repeat (first | (with_reducible first | exact HB.out | apply below_alloc | apply pw_below_drewN | apply below_drew1) | exact HB.out)⟩
  · replace c3 := Bool.eq_false_iff.mpr c3
    subst c3
    have H1 : (some false) = some r := by rw [if_neg (show ¬ (false = true) by decide)] at H; exact H
    clear H
    have H := H1
    clear H1
    obtain rfl := Option.some.inj H
    go_enter Tryd.func4, Tryd.ntmps4
    go_wp2_with (first | ((with_reducible refine gate_callee (f := 6) rfl ?_); refine goesL_ (some 7) rfl rfl Tryd.func6 (by kernel_rfl) rfl #[] rfl (by (try simp only [List.map_toArray, List.map_cons, List.map_nil]); first | done | rfl | (simp only [List.length_drop, List.length_take]; rfl)) ?_; (with_reducible refine (spencelaw05_awake.calls k  false _ A2.out).mono ?_); rintro e w35 ⟨rfl, hb⟩; refine ⟨_, rfl, ?_⟩; have n0_ := Aside0.mk (below_step (by repeat (first | (with_reducible first | exact HB.out | apply below_alloc | apply pw_below_drewN | apply below_drew1) | exact HB.out)) hb); clear HB; have HB := n0_; clear n0_; (try clear hb); (try clear hb2); (try clear hk); (try clear hi)))
    go_ret
    exact ⟨by first | rfl | exact ne_empty _ | exact eq_empty _ | (simp [errW_none, errW_some] <;> rfl) | (simp [*, errW_none, errW_some] <;> rfl), by repeat (first | (with_reducible first | exact HB.out | apply below_alloc | apply pw_below_drewN | apply below_drew1) | exact HB.out)⟩
/-- THE ONE PURE STATEMENT of spencelaw05_SpecBack. -/
def spencelaw05_SpecBack.Pure : Prop := ∀ (l0 : List (S33)), l0.length * 24 ≤ 140737488351232 → (∀ x ∈ l0, ((Lit.int .i64 x.f0).wf = true ∧ (Lit.int .i64 x.f1).wf = true ∧ (Lit.int .i64 x.f2).wf = true)) → ∃ k, spencelaw05_SpecBack.f k l0 = some true
def nums_Fits.f (a0 : Int) (a1 : Int) (a2 : Int) : Option (Bool) := if a0 ≥ a1 then (some (decide (a0 ≤ a2))) else (some false)
def spec_Right.f (a0_0 : Int) (a0_1 : Int) (a0_2 : Int) : Option (Bool) := if a0_0 = 2 then (if a0_1 ≥ 0 then (if a0_2 ≥ a0_1 then (some (decide (a0_2 ≤ 4611686018427387903))) else (some false)) else (some false)) else (if a0_0 = 1 then ((nums_Fits.f a0_1 0 4611686018427387903).bind fun t327 => (if t327 = true then (some (a0_2 == 0)) else (some false))) else (if a0_0 = 3 then ((nums_Fits.f a0_1 0 4611686018427387903).bind fun t328 => (if t328 = true then (some (a0_2 == 0)) else (some false))) else (some false)))
def spenceref01_digits.l0 : Nat → Int → ByteArray → Option (ByteArray)
  | 0, _, _ => none
  | k + 1, x0, x3 => if x0 ≥ 10 then ((some (([(IntKind.u64.wrap (48 + (Int.tmod (IntKind.u64.wrap (Int.tdiv x0 10)) 10))) % 256] : List Int) : List Int)).bind fun y332 => (if (strOfNums y332).size + x3.size ≤ 9223372036854775807 then (spenceref01_digits.l0 k (IntKind.u64.wrap (Int.tdiv x0 10)) ((strOfNums y332) ++ x3)) else (none))) else (some x3)
def spenceref01_digits.f (k : Nat) (a0 : Int) : Option (ByteArray) := spenceref01_digits.l0 k a0 (strOfNums (([(IntKind.u64.wrap (48 + (Int.tmod a0 10))) % 256] : List Int)))
theorem spenceref01_digits.mono_l : ∀ k, (∀ y0 y1, LeO (spenceref01_digits.l0 k y0 y1) (spenceref01_digits.l0 (k + 1) y0 y1))
  | 0 => fun _ _ r h => by simp [spenceref01_digits.l0] at h
  | k + 1 => by
    have ih0 := spenceref01_digits.mono_l k
    · intro y0 y1
      unfold spenceref01_digits.l0
      repeat' first
      | (with_reducible exact ih0 _ _)
      | (with_reducible exact LeO.refl _)
      | (with_reducible exact LeO.none _)
      | (with_reducible refine LeO.ite ?_ ?_)
      | (with_reducible refine LeO.bind ?_ (fun _ => ?_))
      | exact ih0 _ _
      | exact LeO.none _
      | refine LeO.ite ?_ ?_
      | refine LeO.bind ?_ (fun _ => ?_)
theorem spenceref01_digits.mono : ∀ a0 k, LeO (spenceref01_digits.f k a0) (spenceref01_digits.f (k + 1) a0) := by
  intro a0 k
  have ih0 := spenceref01_digits.mono_l k
  unfold spenceref01_digits.f
  repeat' first
      | (with_reducible exact ih0 _ _)
      | (with_reducible exact LeO.refl _)
      | (with_reducible exact LeO.none _)
      | (with_reducible refine LeO.ite ?_ ?_)
      | (with_reducible refine LeO.bind ?_ (fun _ => ?_))
      | exact ih0 _ _
      | exact LeO.none _
      | refine LeO.ite ?_ ?_
      | refine LeO.bind ?_ (fun _ => ?_)
end Go.Proofs.YtndghocppadimaaDoor.PAll
namespace Go.Proofs.YtndghocppadimaaDoor.Pure
open Go.RowKit Go.Proofs.YtndghocppadimaaDoorW.PrintWords Go.Proofs.YtndghocppadimaaDoorW.PrintLast Go.Proofs.YtndghocppadimaaDoorW.PrintMore
theorem Ev.succ {α : Type} {g : Nat → Option α} {r : α} (h : Ev (fun k => g (k + 1)) r) : Ev g r := Ev.step (fun _ => rfl) h
theorem Ev.all {α : Type} {g : Nat → Option α} {r : α} (h : ∀ k, g k = some r) : Ev g r := ⟨0, fun k _ => h k⟩
theorem Ev.pos {α : Type} {g : Nat → Option α} {r : α} (h : ∀ k, g (k + 1) = some r) : Ev g r := ⟨1, fun k hk => by obtain ⟨j, rfl⟩ : ∃ j, k = j + 1 := ⟨k - 1, by omega⟩; exact h j⟩
theorem wrap_id {x : Int} (h : -9223372036854775808 ≤ x ∧ x ≤ 9223372036854775807) : wrap64 x = x := by unfold wrap64; omega
theorem wf_bd {x : Int} (h : (Lit.int .i64 x).wf = true) : -9223372036854775808 ≤ x ∧ x ≤ 9223372036854775807 := bounds_i64 h
end Go.Proofs.YtndghocppadimaaDoor.Pure
namespace Go.Proofs.YtndghocppadimaaDoor.Pure
open Go.RowKit Go.Proofs.YtndghocppadimaaDoorW.PrintWords
/-- the number of digits (bytes as numbers), from n on -/
def fval (n : Int) (l : List Int) : Int := l.foldl (fun n b => 10 * n + (b - 48)) n
def isDig (b : Int) : Bool := decide (48 ≤ b) && decide (b ≤ 57)
theorem isDig_iff (b : Int) : isDig b = true ↔ 48 ≤ b ∧ b ≤ 57 := by simp [isDig]
theorem fval_cons (n b : Int) (l : List Int) : fval n (b :: l) = fval (10 * n + (b - 48)) l := rfl
theorem fval_snoc (n b : Int) (l : List Int) : fval n (l ++ [b]) = 10 * fval n l + (b - 48) := by simp [fval]
theorem fval_ge (l : List Int) : ∀ n : Int, 0 ≤ n → l.all isDig = true → n ≤ fval n l := by
  induction l with
  | nil => intro n _ _; exact Int.le_refl _
  | cons b l ih =>
    intro n hn h
    simp only [List.all_cons, Bool.and_eq_true, isDig_iff] at h
    have := ih (10 * n + (b - 48)) (by omega) h.2
    rw [fval_cons]
    omega
/-- digits of a number, the last one first -/
def rdig (u : Nat) : List Int := if u < 10 then [48 + (u : Int)] else (48 + ((u % 10 : Nat) : Int)) :: rdig (u / 10)
decreasing_by omega
def dig (u : Nat) : List Int := (rdig u).reverse
theorem dig_small {u : Nat} (h : u < 10) : dig u = [48 + (u : Int)] := by unfold dig; rw [rdig, if_pos h]; rfl
theorem dig_big {u : Nat} (h : ¬ u < 10) : dig u = dig (u / 10) ++ [48 + ((u % 10 : Nat) : Int)] := by
  unfold dig; rw [rdig, if_neg h, List.reverse_cons]
theorem dig_all (u : Nat) : (dig u).all isDig = true ∧ dig u ≠ [] ∧ fval 0 (dig u) = u := by
  induction u using Nat.strongRecOn with
  | _ u ih =>
    by_cases h : u < 10
    · rw [dig_small h]
      refine ⟨by simp [isDig_iff]; omega, by simp, ?_⟩
      simp only [fval, List.foldl_cons, List.foldl_nil]; omega
    · have := ih (u / 10) (by omega)
      rw [dig_big h]
      refine ⟨by rw [List.all_append, this.1]; simp [isDig_iff]; omega, by simp, ?_⟩
      rw [fval_snoc, this.2.2]
      omega
theorem dig_length (u : Nat) : ∀ k : Nat, u < 10 ^ (k + 1) → (dig u).length ≤ k + 1 := by
  induction u using Nat.strongRecOn with
  | _ u ih =>
    intro k hk
    by_cases h : u < 10
    · rw [dig_small h]; simp
    · rw [dig_big h, List.length_append]
      cases k with
      | zero => simp at hk; omega
      | succ k =>
        have := ih (u / 10) (by omega) k (by rw [Nat.pow_succ] at hk; omega)
        simp only [List.length_singleton]
        omega
/-- a bound by how many digits there are -/
theorem fval_lt (l : List Int) : ∀ n : Int, 0 ≤ n → l.all isDig = true → fval n l < (n + 1) * (10 : Int) ^ l.length := by
  induction l with
  | nil => intro n _ _; simp [fval]; omega
  | cons b l ih =>
    intro n hn h
    simp only [List.all_cons, Bool.and_eq_true, isDig_iff] at h
    have h1 := ih (10 * n + (b - 48)) (by omega) h.2
    rw [fval_cons, List.length_cons, Int.pow_succ]
    have h2 : (10 * n + (b - 48) + 1) * (10 : Int) ^ l.length ≤ (10 * (n + 1)) * (10 : Int) ^ l.length := Int.mul_le_mul_of_nonneg_right (by omega) (Int.le_of_lt (Int.pow_pos (by omega)))
    have h3 : (10 * (n + 1)) * (10 : Int) ^ l.length = (n + 1) * ((10 : Int) ^ l.length * 10) := by
      rw [Int.mul_comm 10 (n + 1), Int.mul_assoc, Int.mul_comm (10 : Int)]
    omega
theorem fval_lo (l : List Int) : ∀ n : Int, 0 ≤ n → l.all isDig = true → n * (10 : Int) ^ l.length ≤ fval n l := by
  induction l with
  | nil => intro n _ _; simp [fval]
  | cons b l ih =>
    intro n hn h
    simp only [List.all_cons, Bool.and_eq_true, isDig_iff] at h
    have h1 := ih (10 * n + (b - 48)) (by omega) h.2
    rw [fval_cons, List.length_cons, Int.pow_succ]
    have h2 : (10 * n) * (10 : Int) ^ l.length ≤ (10 * n + (b - 48)) * (10 : Int) ^ l.length := Int.mul_le_mul_of_nonneg_right (by omega) (Int.le_of_lt (Int.pow_pos (by omega)))
    have h3 : (10 * n) * (10 : Int) ^ l.length = n * ((10 : Int) ^ l.length * 10) := by
      rw [Int.mul_comm 10 n, Int.mul_assoc, Int.mul_comm (10 : Int)]
    omega
/-- less by bytes: less as numbers -/
def lexlt : List Int → List Int → Bool
  | [], [] => false
  | [], _ :: _ => true
  | _ :: _, [] => false
  | a :: x, b :: y => decide (a < b) || (decide (a = b) && lexlt x y)
theorem lex_fval : ∀ (x y : List Int) (n : Int), 0 ≤ n → x.length = y.length → x.all isDig = true → y.all isDig = true → (lexlt x y = true ↔ fval n x < fval n y)
  | [], [], n, _, _, _, _ => by simp [lexlt, fval]
  | a :: x, b :: y, n, hn, hl, hx, hy => by
    simp only [List.all_cons, Bool.and_eq_true, isDig_iff] at hx hy
    have hl' : x.length = y.length := by simpa using hl
    simp only [lexlt, Bool.or_eq_true, Bool.and_eq_true, decide_eq_true_eq, fval_cons]
    rcases Int.lt_trichotomy a b with h | h | h
    · have h1 := fval_lt x (10 * n + (a - 48)) (by omega) hx.2
      have h2 := fval_lo y (10 * n + (b - 48)) (by omega) hy.2
      rw [hl'] at h1
      have h3 : (10 * n + (a - 48) + 1) * (10 : Int) ^ y.length ≤ (10 * n + (b - 48)) * (10 : Int) ^ y.length := Int.mul_le_mul_of_nonneg_right (by omega) (Int.le_of_lt (Int.pow_pos (by omega)))
      exact ⟨fun _ => by omega, fun _ => .inl h⟩
    · subst h
      have := lex_fval x y (10 * n + (a - 48)) (by omega) hl' hx.2 hy.2
      simp [this]
    · have h1 := fval_lt y (10 * n + (b - 48)) (by omega) hy.2
      have h2 := fval_lo x (10 * n + (a - 48)) (by omega) hx.2
      rw [hl'] at h2
      have h3 : (10 * n + (b - 48) + 1) * (10 : Int) ^ y.length ≤ (10 * n + (a - 48)) * (10 : Int) ^ y.length := Int.mul_le_mul_of_nonneg_right (by omega) (Int.le_of_lt (Int.pow_pos (by omega)))
      exact ⟨fun h' => by omega, fun h' => by omega⟩
  | [], _ :: _, _, _, hl, _, _ => by simp at hl
  | _ :: _, [], _, _, hl, _, _ => by simp at hl
end Go.Proofs.YtndghocppadimaaDoor.Pure
namespace Go.Proofs.YtndghocppadimaaDoor.Pure
open Go.RowKit Go.Proofs.YtndghocppadimaaDoorW.PrintWords
def isB (b : Int) : Prop := 0 ≤ b ∧ b < 256
theorem bytesOf_inj {s t : ByteArray} : bytesOf s = bytesOf t ↔ s = t := by
  constructor
  · intro h
    have h2 : s.data.toList = t.data.toList := by
      unfold bytesOf at h
      exact (List.map_inj_right (fun a b h => by have := Int.ofNat_inj.1 h; exact UInt8.toNat_inj.1 this)).1 h
    have h3 : s.data = t.data := Array.toList_inj.1 h2
    cases s; cases t; simp_all
  · intro h; rw [h]
theorem toList_bytes (s t : ByteArray) : s.toList = t.toList ↔ bytesOf s = bytesOf t := by
  rw [ByteArray.toList_eq, ByteArray.toList_eq, bytesOf_inj]
  constructor
  · intro h; have := Array.toList_inj.1 h; cases s; cases t; simp_all
  · intro h; rw [h]
theorem toList_beq (s t : ByteArray) : (s.toList == t.toList) = decide (bytesOf s = bytesOf t) := by
  by_cases h : bytesOf s = bytesOf t
  · rw [decide_eq_true h, beq_iff_eq, toList_bytes]; exact h
  · rw [decide_eq_false h, beq_eq_false_iff_ne, ne_eq, toList_bytes]; exact h
theorem bytesOf_isB (s : ByteArray) : ∀ b ∈ bytesOf s, isB b := by
  intro b hb
  unfold bytesOf at hb
  obtain ⟨x, _, rfl⟩ := List.mem_map.1 hb
  have := x.toNat_lt
  unfold isB; omega
theorem bytesOf_str (l : List Int) (h : ∀ b ∈ l, isB b) : bytesOf (strOfNums l) = l := by
  unfold bytesOf
  rw [strOfNums_data, List.map_map]
  conv => rhs; rw [← List.map_id l]
  apply List.map_congr_left
  intro b hb
  have := h b hb
  unfold isB at this
  simp
  omega
theorem str_append (l m : List Int) : strOfNums l ++ strOfNums m = strOfNums (l ++ m) := by
  unfold strOfNums
  apply ByteArray.ext
  rw [ByteArray.data_append]
  simp
theorem str_bytes (s : ByteArray) : strOfNums (bytesOf s) = s := by
  rw [← bytesOf_inj]
  exact bytesOf_str _ (bytesOf_isB s)
theorem size_str (l : List Int) : (strOfNums l).size = l.length := strOfNums_size l
theorem bt_str (l : List Int) (h : ∀ b ∈ l, isB b) (i : Int) : bt (strOfNums l) i = rd l i := by
  rw [← rd_bytesOf, bytesOf_str l h]
theorem bytesOf_extract (s : ByteArray) (a b : Nat) : bytesOf (s.extract a b) = ((bytesOf s).take b).drop a := by
  unfold bytesOf
  rw [ByteArray.data_extract, Array.toList_extract, List.extract_eq_take_drop]
  rw [← List.map_take, ← List.map_drop]
  congr 1
  by_cases h : a ≤ b
  · rw [List.take_drop, Nat.add_sub_cancel' h]
  · have e : b - a = 0 := by omega
    rw [e, List.take_zero, List.drop_of_length_le (by rw [List.length_take]; omega)]
theorem bytesOf_eq_nil (s : ByteArray) : bytesOf s = [] ↔ s.size = 0 := by
  rw [← bytesOf_length]
  exact ⟨fun h => by rw [h]; rfl, fun h => List.eq_nil_of_length_eq_zero h⟩
theorem toList_nil (s : ByteArray) : s.toList = ([] : List UInt8) ↔ bytesOf s = [] := by
  rw [ByteArray.toList_eq]
  unfold bytesOf
  simp
theorem rd_eq (l : List Int) (i : Int) (h0 : 0 ≤ i) (h1 : i < l.length) : rd l i = l[i.toNat]'(by omega) := by
  have : i.toNat < l.length := by omega
  simp [rd, this]
end Go.Proofs.YtndghocppadimaaDoor.Pure
namespace Go.Proofs.YtndghocppadimaaDoor.Pure
open Go.RowKit Go.Proofs.YtndghocppadimaaDoor.PAll Go.Proofs.YtndghocppadimaaDoorW.PrintWords Go.Proofs.YtndghocppadimaaDoorW.PrintLast Go.Proofs.YtndghocppadimaaDoorW.PrintMore
theorem bytes_drop (s : ByteArray) (i : Int) (h0 : 0 ≤ i) (h1 : i < s.size) : (bytesOf s).drop i.toNat = bt s i :: (bytesOf s).drop (i + 1).toNat := by
  have hl : i.toNat < (bytesOf s).length := by rw [bytesOf_length]; omega
  have e : (i + 1).toNat = i.toNat + 1 := by omega
  rw [List.drop_eq_getElem_cons hl, e, ← rd_bytesOf]
  simp [rd, hl]
theorem bytes_take (s : ByteArray) (i : Int) (h0 : 0 ≤ i) (h1 : i < s.size) : (bytesOf s).take (i + 1).toNat = (bytesOf s).take i.toNat ++ [bt s i] := by
  have hl : i.toNat < (bytesOf s).length := by rw [bytesOf_length]; omega
  have e : (i + 1).toNat = i.toNat + 1 := by omega
  rw [e, List.take_succ_eq_append_getElem hl, ← rd_bytesOf]
  simp [rd, hl]
theorem ext_str (s : ByteArray) (a b : Nat) : s.extract a b = strOfNums (((bytesOf s).take b).drop a) := by
  rw [← bytesOf_extract, str_bytes]
theorem take_size (s : ByteArray) : (bytesOf s).take s.size = bytesOf s := List.take_of_length_le (by rw [bytesOf_length]; omega)
def i8s (l : List UInt8) : List Int := l.map fun b => (b.toNat : Int)
theorem bytesOf_i8 (s : ByteArray) : bytesOf s = i8s s.toList := by rw [ByteArray.toList_eq]; rfl
theorem rev_loop (d : Nat) : ∀ (l : List Int) (i : Int), l.length ≤ 4611686018427387904 → 0 ≤ i → 2 * i ≤ (l.length : Int) → (l.length : Int) - 2 * i ≤ d →
    Ev (fun k => slices_Reverse_byte_byte.l0 k l i ((l.length : Int) - 1 - i)) (l.take i.toNat ++ ((l.drop i.toNat).take (l.length - 2 * i.toNat)).reverse ++ l.drop (l.length - i.toNat)) := by
  induction d using Nat.strongRecOn with
  | _ d ih =>
    intro l i hl h0 h1 hd
    by_cases hlt : i < (l.length : Int) - 1 - i
    · have hi : i.toNat < l.length := by omega
      have hj : ((l.length : Int) - 1 - i).toNat = l.length - 1 - i.toNat := by omega
      have hjl : l.length - 1 - i.toNat < l.length := by omega
      generalize hm : (l.set (i : Int).toNat (rd l ((l.length : Int) - 1 - i))).set ((l.length : Int) - 1 - i : Int).toNat (rd l i) = m
      have hml : m.length = l.length := by rw [← hm]; simp
      have := ih (d - 2) (by omega) m (i + 1) (by omega) (by omega) (by omega) (by omega)
      obtain ⟨K, hK⟩ := this
      refine ⟨K + 1, fun k hk => ?_⟩
      obtain ⟨k, rfl⟩ : ∃ j, k = j + 1 := ⟨k - 1, by omega⟩
      have h := hK k (by omega)
      dsimp only at h
      have w1 : wrap64 (i + 1) = i + 1 := wrap_id (by omega)
      have w2 : wrap64 ((l.length : Int) - 1 - i - 1) = (m.length : Int) - 1 - (i + 1) := by rw [wrap_id (by omega)]; omega
      simp only [slices_Reverse_byte_byte.l0]
      rw [if_pos hlt, if_pos (by omega), if_pos (by omega), if_pos h0, if_pos (by omega), hm, w1, w2, h]
      congr 1
      have e1 : (i + 1).toNat = i.toNat + 1 := by omega
      have r1 : rd l ((l.length : Int) - 1 - i) = l[l.length - 1 - i.toNat] := by simp [rd, hj, hjl]
      have r2 : rd l i = l[i.toNat] := by simp [rd, hi]
      rw [r1, r2, hj] at hm
      apply List.ext_getElem?
      intro q
      have gm : ∀ q, m[q]? = if q = l.length - 1 - i.toNat then some l[i.toNat] else if q = i.toNat then some l[l.length - 1 - i.toNat] else l[q]? := by
        intro q
        rw [← hm, List.getElem?_set, List.getElem?_set]
        simp only [List.length_set]
        by_cases a1 : l.length - 1 - i.toNat = q
        · rw [if_pos a1, if_pos (by omega), if_pos a1.symm]
        · rw [if_neg a1, if_neg (show ¬ q = l.length - 1 - i.toNat from fun h => a1 h.symm)]
          by_cases a2 : i.toNat = q
          · rw [if_pos a2, if_pos (by omega), if_pos (show q = i.toNat from a2.symm)]
          · rw [if_neg a2, if_neg (show ¬ q = i.toNat from fun h => a2 h.symm)]
      have spec : ∀ (x : List Int) (a : Nat), x.length = l.length → 2 * a ≤ l.length → ∀ q, (x.take a ++ ((x.drop a).take (l.length - 2 * a)).reverse ++ x.drop (l.length - a))[q]? = if q < a then x[q]? else if q < l.length - a then x[l.length - 1 - q]? else x[q]? := by
        intro x a hx ha q
        by_cases b1 : q < a
        · rw [if_pos b1, List.append_assoc, List.getElem?_append_left (by simp; omega), List.getElem?_take, if_pos b1]
        · rw [if_neg b1]
          by_cases b2 : q < l.length - a
          · rw [if_pos b2, List.getElem?_append_left (by simp; omega), List.getElem?_append_right (by simp; omega)]
            rw [List.getElem?_reverse (by simp; omega), List.getElem?_take, if_pos (by simp; omega), List.getElem?_drop]
            congr 1
            simp
            omega
          · rw [if_neg b2, List.getElem?_append_right (by simp; omega), List.getElem?_drop]
            congr 1
            simp
            omega
      rw [hml, e1, spec m (i.toNat + 1) hml (by omega) q, spec l i.toNat rfl (by omega) q]
      by_cases c1 : q < i.toNat
      · rw [if_pos (by omega), if_pos c1, gm, if_neg (by omega), if_neg (by omega)]
      · rw [if_neg c1]
        by_cases c2 : q = i.toNat
        · subst c2
          rw [if_pos (by omega), if_pos (by omega), gm, if_neg (by omega), if_pos rfl, List.getElem?_eq_getElem hjl]
        · rw [if_neg (by omega)]
          by_cases c3 : q < l.length - (i.toNat + 1)
          · rw [if_pos c3, if_pos (by omega), gm, if_neg (by omega), if_neg (by omega)]
          · rw [if_neg c3]
            by_cases c4 : q = l.length - 1 - i.toNat
            · rw [if_pos (by omega), gm, if_pos c4]
              have : l.length - 1 - q = i.toNat := by omega
              rw [this, List.getElem?_eq_getElem hi]
            · rw [if_neg (by omega), gm, if_neg c4, if_neg c2]
    · refine Ev.pos (fun k => ?_)
      simp only [slices_Reverse_byte_byte.l0]
      rw [if_neg hlt]
      congr 1
      have hz : l.length - 2 * i.toNat = 0 ∨ l.length - 2 * i.toNat = 1 := by omega
      have hr : ((l.drop i.toNat).take (l.length - 2 * i.toNat)).reverse = (l.drop i.toNat).take (l.length - 2 * i.toNat) := by
        rcases hz with h | h <;> rw [h]
        · simp
        · cases l.drop i.toNat <;> simp
      rw [hr, List.append_assoc]
      have e : l.drop (l.length - i.toNat) = (l.drop i.toNat).drop (l.length - 2 * i.toNat) := by rw [List.drop_drop]; congr 1; omega
      rw [e, List.take_append_drop, List.take_append_drop]
theorem reverse_ev (l : List Int) (hl : l.length ≤ 4611686018427387904) : Ev (fun k => slices_Reverse_byte_byte.f k l) l.reverse := by
  have := rev_loop l.length l 0 hl (by omega) (by omega) (by omega)
  unfold slices_Reverse_byte_byte.f
  rw [wrap_id (by omega)]
  simpa using this
end Go.Proofs.YtndghocppadimaaDoor.Pure
namespace Go.Proofs.YtndghocppadimaaDoor.Pure
open Go.RowKit Go.Proofs.YtndghocppadimaaDoor.Xw Go.Proofs.YtndghocppadimaaDoor.PAll Go.Proofs.YtndghocppadimaaDoorW.PrintWords Go.Proofs.YtndghocppadimaaDoorW.PrintLast Go.Proofs.YtndghocppadimaaDoorW.PrintMore
/-- cut at the first byte b -/
def cutOf (b : Int) : List Int → List Int × List Int × Bool
  | [] => ([], [], false)
  | x :: l => if x = b then ([], l, true) else (x :: (cutOf b l).1, (cutOf b l).2.1, (cutOf b l).2.2)
theorem cutOf_no (b : Int) (l : List Int) (h : (cutOf b l).2.2 = false) : (cutOf b l).1 = l ∧ (cutOf b l).2.1 = [] ∧ b ∉ l := by
  induction l with
  | nil => simp [cutOf]
  | cons x l ih =>
    unfold cutOf at h ⊢
    by_cases e : x = b
    · rw [if_pos e] at h; cases h
    · rw [if_neg e] at h ⊢
      have := ih h
      refine ⟨?_, this.2.1, ?_⟩
      · dsimp only; rw [this.1]
      · intro hm; rcases List.mem_cons.1 hm with h1 | h1
        · exact e h1.symm
        · exact this.2.2 h1
theorem cutOf_yes (b : Int) (l : List Int) (h : (cutOf b l).2.2 = true) : l = (cutOf b l).1 ++ b :: (cutOf b l).2.1 ∧ b ∉ (cutOf b l).1 := by
  induction l with
  | nil => simp [cutOf] at h
  | cons x l ih =>
    unfold cutOf at h ⊢
    by_cases e : x = b
    · rw [if_pos e]; subst e; simp
    · rw [if_neg e] at h ⊢
      have := ih h
      refine ⟨?_, ?_⟩
      · dsimp only; rw [List.cons_append, ← this.1]
      · intro hm; rcases List.mem_cons.1 hm with h1 | h1
        · exact e h1.symm
        · exact this.2 h1
theorem cutOf_mk (b : Int) (p q : List Int) (h : b ∉ p) : cutOf b (p ++ b :: q) = (p, q, true) := by
  induction p with
  | nil => simp [cutOf]
  | cons x p ih =>
    have h1 : ¬ x = b := fun e => h (by rw [e]; exact List.mem_cons_self)
    have h2 : b ∉ p := fun e => h (List.mem_cons_of_mem _ e)
    rw [List.cons_append, cutOf, if_neg h1, ih h2]
theorem idx_i8 (l : List UInt8) (b : Int) (h : isB b) : Lib.indexByte l b.toNat.toUInt8 = if (cutOf b (i8s l)).2.2 then ((cutOf b (i8s l)).1.length : Int) else -1 := by
  induction l with
  | nil => simp [Lib.indexByte, i8s, cutOf]
  | cons x l ih =>
    unfold isB at h
    have hx : (x == b.toNat.toUInt8) = decide ((x.toNat : Int) = b) := by
      rw [Bool.eq_iff_iff, beq_iff_eq, decide_eq_true_iff]
      constructor
      · intro e; rw [e]; simp; omega
      · intro e; apply UInt8.toNat_inj.1; simp; omega
    unfold Lib.indexByte
    rw [hx, ih]
    have e3 : i8s (x :: l) = (x.toNat : Int) :: i8s l := rfl
    rw [e3, cutOf]
    by_cases e : (x.toNat : Int) = b
    · rw [if_pos e, decide_eq_true e]; rfl
    · rw [if_neg e, decide_eq_false e]
      dsimp only
      rw [if_neg (by decide)]
      by_cases hc : (cutOf b (i8s l)).2.2 = true
      · rw [if_pos hc, if_pos hc, if_neg (by simp), List.length_cons]; omega
      · rw [if_neg hc, if_neg hc]; rfl
theorem cut_eq (s : ByteArray) (b : Int) (hb : isB b) (hs : s.size ≤ 9223372036854775806) : text_Cut.f s b = some (strOfNums (cutOf b (bytesOf s)).1, strOfNums (cutOf b (bytesOf s)).2.1, (cutOf b (bytesOf s)).2.2) := by
  unfold text_Cut.f strings_IndexByte.f idxb
  rw [idx_i8 _ _ hb]
  have e0 : i8s s.data.toList = bytesOf s := rfl
  rw [e0]
  simp only [Option.bind_some]
  cases hc : (cutOf b (bytesOf s)).2.2
  · obtain ⟨h1, h2, -⟩ := cutOf_no b _ hc
    rw [if_neg (by decide : ¬ false = true), if_pos (by decide), h1, h2, str_bytes]; rfl
  · obtain ⟨h1, -⟩ := cutOf_yes b _ hc
    have hl := congrArg List.length h1
    rw [bytesOf_length, List.length_append, List.length_cons] at hl
    rw [if_pos rfl, if_neg (by omega), if_pos (by omega), if_pos (by omega), wrap_id (by omega), if_pos (by omega), if_pos (by omega), ext_str, ext_str, take_size]
    generalize (cutOf b (bytesOf s)).1 = p at h1 hl ⊢
    generalize (cutOf b (bytesOf s)).2.1 = q at h1 hl ⊢
    rw [h1]
    congr 3
    · rw [List.drop_zero, Int.toNat_natCast, List.take_left' rfl]
    · congr 1
      have e1 : ((p.length : Int) + 1).toNat = p.length + 1 := by omega
      have e2 : p.length + 1 - p.length = 1 := by omega
      rw [e1, List.drop_append, List.drop_of_length_le (by omega), List.nil_append, e2]; rfl
end Go.Proofs.YtndghocppadimaaDoor.Pure
namespace Go.Proofs.YtndghocppadimaaDoor.Pure
open Go.RowKit Go.Proofs.YtndghocppadimaaDoor.Xw Go.Proofs.YtndghocppadimaaDoor.PAll Go.Proofs.YtndghocppadimaaDoorW.PrintWords Go.Proofs.YtndghocppadimaaDoorW.PrintLast Go.Proofs.YtndghocppadimaaDoorW.PrintMore
theorem lowI_isB (b : Int) (h : isB b) : isB (lowI b) := by unfold isB lowI at *; split <;> omega
theorem lower_eq (s : ByteArray) (hs : s.size ≤ 9223372036854775807) : text_Lower.f s = some (strOfNums ((bytesOf s).map lowI)) := by unfold text_Lower.f; rw [if_pos hs]
theorem fold_eq (s t : ByteArray) (hs : s.size ≤ 9223372036854775807) (ht : t.size ≤ 9223372036854775807) : text_Fold.f s t = some ((strOfNums ((bytesOf s).map lowI)).toList == (strOfNums ((bytesOf t).map lowI)).toList) := by
  unfold text_Fold.f
  rw [lower_eq s hs, lower_eq t ht]; rfl
end Go.Proofs.YtndghocppadimaaDoor.Pure

namespace Go.Proofs.YtndghocppadimaaDoor.Pure
open Go.RowKit Go.Proofs.YtndghocppadimaaDoor.PAll Go.Proofs.YtndghocppadimaaDoorW.PrintWords Go.Proofs.YtndghocppadimaaDoorW.PrintLast Go.Proofs.YtndghocppadimaaDoorW.PrintMore
def maxN : Int := 4611686018427387903
/-- what a text's bytes say -/
def parse (l : List Int) : Int × Int := if l = [] ∨ l.all isDig = false then (0, 3) else if fval 0 l > maxN then (0, 9) else (fval 0 l, 0)
theorem digit_eq (b : Int) (h : 0 ≤ b ∧ b ≤ 255) : nums_digit.f b = some (if isDig b then b - 48 else 0, isDig b) := by
  unfold nums_digit.f isDig
  by_cases h1 : b < 48
  · rw [if_pos h1]; have : ¬ 48 ≤ b := by omega
    simp [this]
  · rw [if_neg h1]
    by_cases h2 : b > 57
    · rw [if_pos h2]; have : ¬ b ≤ 57 := by omega
      simp [this]
    · rw [if_neg h2]
      have h3 : 48 ≤ b := by omega
      have h4 : b ≤ 57 := by omega
      simp only [h3, h4, decide_true, Bool.and_self, if_true]
      have : (b - 48) % 256 = b - 48 := by omega
      rw [this]
/-- the loop's answer from a place on -/
def run (n : Int) (over : Bool) (l : List Int) : Int × Int := if l.all isDig = false then (0, 3) else if over = true ∨ fval n l > maxN then (0, 9) else (fval n l, 0)
theorem parse_loop (s : ByteArray) (hs : s.size ≤ 9223372036854775806) (hs0 : 0 < s.size) (d : Nat) : ∀ (i n : Int) (over : Bool), 0 ≤ i → i ≤ s.size → (s.size : Int) - i = d → 0 ≤ n → n ≤ maxN →
    Ev (fun k => nums_Parse.l0 k s n over (s.size : Int) i) (run n over ((bytesOf s).drop i.toNat)) := by
  induction d with
  | zero =>
    intro i n over h0 h1 hd hn hn2
    refine Ev.pos (fun k => ?_)
    have he : ¬ s.toList = ([] : List UInt8) := by rw [toList_nil, bytesOf_eq_nil]; omega
    simp only [nums_Parse.l0]
    rw [if_neg (by omega), if_neg he, List.drop_of_length_le (by rw [bytesOf_length]; omega)]
    have hf : fval n [] = n := rfl
    have hx : ¬ n > maxN := by omega
    cases over <;> simp [run, hf, hx]
  | succ d ih =>
    intro i n over h0 h1 hd hn hn2
    have hi : i < s.size := by omega
    have hb := bt_range s i
    have hw : wrap64 (i + 1) = i + 1 := wrap_id (by omega)
    rw [bytes_drop s i h0 hi]
    by_cases hdg : isDig (bt s i) = true
    · have hd2 := (isDig_iff _).1 hdg
      cases over with
      | true =>
        obtain ⟨K, hK⟩ := ih (i + 1) n true (by omega) (by omega) (by omega) hn hn2
        refine ⟨K + 1, fun k hk => ?_⟩
        obtain ⟨k, rfl⟩ : ∃ j, k = j + 1 := ⟨k - 1, by omega⟩
        have h := hK k (by omega)
        dsimp only at h
        simp only [nums_Parse.l0, digit_eq _ hb, Option.bind_some, hw]
        rw [if_pos hi, if_pos h0, if_pos hi, if_pos hdg, if_pos trivial, h]
        simp [run, hdg]
      | false =>
        have e1 : wrap64 (4611686018427387903 - (bt s i - 48)) = 4611686018427387903 - (bt s i - 48) := wrap_id (by omega)
        have e2 : Int.tdiv (4611686018427387903 - (bt s i - 48)) 10 = (4611686018427387903 - (bt s i - 48)) / 10 := Int.tdiv_eq_ediv_of_nonneg (by omega)
        have e3 : wrap64 ((4611686018427387903 - (bt s i - 48)) / 10) = (4611686018427387903 - (bt s i - 48)) / 10 := wrap_id (by omega)
        by_cases hov : n > (4611686018427387903 - (bt s i - 48)) / 10
        · obtain ⟨K, hK⟩ := ih (i + 1) n true (by omega) (by omega) (by omega) hn hn2
          refine ⟨K + 1, fun k hk => ?_⟩
          obtain ⟨k, rfl⟩ : ∃ j, k = j + 1 := ⟨k - 1, by omega⟩
          have h := hK k (by omega)
          dsimp only at h
          simp only [nums_Parse.l0, digit_eq _ hb, Option.bind_some, hw, hdg, if_true, e1, e2, e3]
          rw [if_pos hi, if_pos h0, if_pos hi, if_neg (by decide), if_pos hov, h]
          by_cases hall : ((bytesOf s).drop (i + 1).toNat).all isDig = true
          · have hge := fval_ge ((bytesOf s).drop (i + 1).toNat) (10 * n + (bt s i - 48)) (by omega) hall
            have hgt : fval n (bt s i :: (bytesOf s).drop (i + 1).toNat) > maxN := by rw [fval_cons]; unfold maxN; omega
            simp [run, hdg, hgt]
          · simp [run, hdg, hall]
        · have hmx : 10 * n + (bt s i - 48) ≤ maxN := by unfold maxN; omega
          have hmx' : 10 * n + (bt s i - 48) ≤ 4611686018427387903 := hmx
          have e4 : wrap64 (10 * n) = 10 * n := wrap_id (by omega)
          have e5 : wrap64 (10 * n + (bt s i - 48)) = 10 * n + (bt s i - 48) := wrap_id (by omega)
          obtain ⟨K, hK⟩ := ih (i + 1) (10 * n + (bt s i - 48)) false (by omega) (by omega) (by omega) (by omega) hmx
          refine ⟨K + 1, fun k hk => ?_⟩
          obtain ⟨k, rfl⟩ : ∃ j, k = j + 1 := ⟨k - 1, by omega⟩
          have h := hK k (by omega)
          dsimp only at h
          simp only [nums_Parse.l0, digit_eq _ hb, Option.bind_some, hw, hdg, if_true, e1, e2, e3, e4, e5]
          rw [if_pos hi, if_pos h0, if_pos hi, if_neg (by decide), if_neg hov, h]
          simp [run, hdg, fval_cons]
    · refine Ev.pos (fun k => ?_)
      have hf : isDig (bt s i) = false := by simpa using hdg
      simp only [nums_Parse.l0, digit_eq _ hb, Option.bind_some, hf]
      rw [if_pos hi, if_pos h0, if_pos hi, if_neg (by decide)]
      simp [run, hf]
theorem parse_ev (s : ByteArray) (hs : s.size ≤ 9223372036854775806) : Ev (fun k => nums_Parse.f k s) (parse (bytesOf s)) := by
  by_cases h0 : s.size = 0
  · refine Ev.pos (fun k => ?_)
    have hn : bytesOf s = [] := (bytesOf_eq_nil s).2 h0
    have he : s.toList = ([] : List UInt8) := (toList_nil s).2 hn
    simp only [nums_Parse.f, nums_Parse.l0]
    rw [if_neg (by omega), if_pos he, hn]
    simp [parse]
  · have := parse_loop s hs (by omega) s.size 0 0 false (by omega) (by omega) (by omega) (by omega) (by unfold maxN; omega)
    simp only [Int.toNat_zero, List.drop_zero] at this
    have hn : ¬ bytesOf s = [] := fun h => h0 (by rw [← bytesOf_length, h]; rfl)
    have e : run 0 false (bytesOf s) = parse (bytesOf s) := by simp [run, parse, hn]
    rw [e] at this
    exact this
end Go.Proofs.YtndghocppadimaaDoor.Pure
namespace Go.Proofs.YtndghocppadimaaDoor.Pure
open Go.RowKit Go.Proofs.YtndghocppadimaaDoor.PAll Go.Proofs.YtndghocppadimaaDoorW.PrintWords Go.Proofs.YtndghocppadimaaDoorW.PrintLast Go.Proofs.YtndghocppadimaaDoorW.PrintMore
def isBl (b : Int) : Bool := b == 32 || b == 9
def ltrim (l : List Int) : List Int := l.dropWhile isBl
def rtrim (l : List Int) : List Int := (l.reverse.dropWhile isBl).reverse
def trim (l : List Int) : List Int := ltrim (rtrim l)
theorem blank_eq (b : Int) : text_blank.f b = some (isBl b) := by
  unfold text_blank.f isBl; by_cases h : b = 32 <;> simp [h]
theorem rtrim_snoc (l : List Int) (b : Int) : rtrim (l ++ [b]) = if isBl b then rtrim l else l ++ [b] := by
  unfold rtrim
  rw [List.reverse_append, List.reverse_singleton, List.singleton_append, List.dropWhile_cons]
  by_cases h : isBl b = true
  · rw [if_pos h, if_pos h]
  · rw [if_neg h, if_neg h]; simp
theorem ltrim_cons (l : List Int) (b : Int) : ltrim (b :: l) = if isBl b then ltrim l else b :: l := by
  unfold ltrim; rw [List.dropWhile_cons]
theorem right_loop (s : ByteArray) (hs : s.size ≤ 9223372036854775806) (d : Nat) : ∀ i : Int, 0 ≤ i → i ≤ s.size → i = d →
    Ev (fun k => text_Right.l0 k s i) (strOfNums (rtrim ((bytesOf s).take i.toNat))) := by
  induction d with
  | zero =>
    intro i h0 h1 hd
    refine Ev.pos (fun k => ?_)
    simp only [text_Right.l0]
    rw [if_neg (by omega), if_pos h0, if_pos h1, ext_str]
    subst hd; rfl
  | succ d ih =>
    intro i h0 h1 hd
    have hw : wrap64 (i - 1) = i - 1 := wrap_id (by omega)
    have ht := bytes_take s (i - 1) (by omega) (by omega)
    have e1 : i - 1 + 1 = i := by omega
    rw [e1] at ht
    rw [ht, rtrim_snoc, ← ht]
    by_cases hb : isBl (bt s (i - 1)) = true
    · rw [if_pos hb]
      refine Ev.step (fun k => ?_) (ih (i - 1) (by omega) (by omega) (by omega))
      simp only [text_Right.l0, hw, blank_eq, Option.bind_some]
      rw [if_pos (by omega), if_pos (by omega), if_pos (by omega), if_pos hb]
    · rw [if_neg hb]
      refine Ev.pos (fun k => ?_)
      simp only [text_Right.l0, hw, blank_eq, Option.bind_some]
      rw [if_pos (by omega), if_pos (by omega), if_pos (by omega), if_neg hb, if_pos h0, if_pos h1, ext_str]
      rfl
theorem right_ev (s : ByteArray) (hs : s.size ≤ 9223372036854775806) : Ev (fun k => text_Right.f k s) (strOfNums (rtrim (bytesOf s))) := by
  have := right_loop s hs s.size s.size (by omega) (by omega) rfl
  rw [Int.toNat_natCast, take_size] at this
  exact this
theorem left_loop (s : ByteArray) (hs : s.size ≤ 9223372036854775806) (d : Nat) : ∀ i : Int, 0 ≤ i → i ≤ s.size → (s.size : Int) - i = d →
    Ev (fun k => text_Trim.l0 k s i) (strOfNums (ltrim ((bytesOf s).drop i.toNat))) := by
  induction d with
  | zero =>
    intro i h0 h1 hd
    refine Ev.pos (fun k => ?_)
    have hz : (bytesOf s).drop i.toNat = [] := List.drop_of_length_le (by rw [bytesOf_length]; omega)
    simp only [text_Trim.l0]
    rw [if_neg (by omega), if_pos h0, if_pos h1, ext_str, take_size, hz]
    rfl
  | succ d ih =>
    intro i h0 h1 hd
    have hi : i < s.size := by omega
    have hdr := bytes_drop s i h0 hi
    rw [hdr, ltrim_cons, ← hdr]
    by_cases hb : isBl (bt s i) = true
    · rw [if_pos hb]
      refine Ev.step (fun k => ?_) (ih (i + 1) (by omega) (by omega) (by omega))
      simp only [text_Trim.l0, blank_eq, Option.bind_some]
      rw [if_pos hi, if_pos h0, if_pos hb, wrap_id (by omega)]
    · rw [if_neg hb]
      refine Ev.pos (fun k => ?_)
      simp only [text_Trim.l0, blank_eq, Option.bind_some]
      rw [if_pos hi, if_pos h0, if_neg hb, if_pos h1, ext_str, take_size]
theorem dropWhile_len (p : Int → Bool) (l : List Int) : (l.dropWhile p).length ≤ l.length := (List.dropWhile_sublist p).length_le
theorem rtrim_len (l : List Int) : (rtrim l).length ≤ l.length := by
  unfold rtrim
  rw [List.length_reverse]
  exact Nat.le_trans (dropWhile_len _ _) (by rw [List.length_reverse]; omega)
theorem ltrim_len (l : List Int) : (ltrim l).length ≤ l.length := dropWhile_len _ _
theorem trim_len (l : List Int) : (trim l).length ≤ l.length := Nat.le_trans (ltrim_len _) (rtrim_len _)
theorem rtrim_mem {l : List Int} {b : Int} (h : b ∈ rtrim l) : b ∈ l := by
  unfold rtrim at h
  exact List.mem_reverse.1 ((List.dropWhile_sublist isBl).mem (List.mem_reverse.1 h))
theorem ltrim_mem {l : List Int} {b : Int} (h : b ∈ ltrim l) : b ∈ l := (List.dropWhile_sublist isBl).mem h
theorem trim_mem {l : List Int} {b : Int} (h : b ∈ trim l) : b ∈ l := rtrim_mem (ltrim_mem h)
theorem trim_ev (s : ByteArray) (hs : s.size ≤ 9223372036854775806) : Ev (fun k => text_Trim.f k s) (strOfNums (trim (bytesOf s))) := by
  refine Ev.bind (f := fun k t => text_Trim.l0 k t 0) (right_ev s hs) ?_
  have hl : (rtrim (bytesOf s)).length ≤ s.size := by have := rtrim_len (bytesOf s); rwa [bytesOf_length] at this
  have := left_loop (strOfNums (rtrim (bytesOf s))) (by rw [size_str]; omega) (rtrim (bytesOf s)).length 0 (by omega) (by omega) (by rw [size_str]; omega)
  rw [bytesOf_str _ (fun b hb => bytesOf_isB s b (rtrim_mem hb))] at this
  exact this
end Go.Proofs.YtndghocppadimaaDoor.Pure
namespace Go.Proofs.YtndghocppadimaaDoor.PAll
open Go.RowKit Go.Proofs.YtndghocppadimaaDoor.Xw Go.Proofs.YtndghocppadimaaDoorW.PrintWords Go.Proofs.YtndghocppadimaaDoorW.PrintLast Go.Proofs.YtndghocppadimaaDoorW.PrintMore
attribute [local go_sem] max2_int min2_int max_two min_two max_three min_three max_four min_four   -- for this text's walks alone
set_option linter.unusedVariables false
set_option linter.unusedSimpArgs false
def spenceref01_Print.f (k : Nat) (a0 : Int) : Option (ByteArray) := if a0 < 0 then ((spenceref01_digits.f k (IntKind.u64.wrap ((IntKind.u64.wrap (wrap64 (-(wrap64 (a0 + 1))))) + 1))).bind fun t335 => (if 1 + t335.size ≤ 9223372036854775807 then (some ((⟨#[45]⟩ : ByteArray) ++ t335)) else (none))) else ((spenceref01_digits.f k (IntKind.u64.wrap (a0))).bind fun t336 => (some t336))
theorem spenceref01_Print.mono : ∀ a0 k, LeO (spenceref01_Print.f k a0) (spenceref01_Print.f (k + 1) a0) := by
  intro a0 k
  unfold spenceref01_Print.f
  repeat' first
      | (with_reducible exact spenceref01_digits.mono _ _)
      | (with_reducible exact LeO.refl _)
      | (with_reducible exact LeO.none _)
      | (with_reducible refine LeO.ite ?_ ?_)
      | (with_reducible refine LeO.bind ?_ (fun _ => ?_))
      | exact spenceref01_digits.mono _ _
      | exact LeO.none _
      | refine LeO.ite ?_ ?_
      | refine LeO.bind ?_ (fun _ => ?_)
mutual
def spenceref04_PrintSpecs.l0 : Nat → ByteArray → List (S33) → Int → Int → Option (ByteArray)
  | 0, _, _, _, _ => none
  | k + 1, x3, x6, x7, x8 => if x8 < x7 then (if 0 ≤ x8 then (if x8 < (x6.length : Int) then (if x8 > 0 then (if x3.size + 1 ≤ 9223372036854775807 then (spenceref04_PrintSpecs.j1 k (x3 ++ (⟨#[44]⟩ : ByteArray)) x6 x7 x8 ((rd_T33 x6 x8).f0) ((rd_T33 x6 x8).f1) ((rd_T33 x6 x8).f2)) else (none)) else (spenceref04_PrintSpecs.j1 k x3 x6 x7 x8 ((rd_T33 x6 x8).f0) ((rd_T33 x6 x8).f1) ((rd_T33 x6 x8).f2))) else (none)) else (none)) else (some x3)
def spenceref04_PrintSpecs.j1 : Nat → ByteArray → List (S33) → Int → Int → Int → Int → Int → Option (ByteArray)
  | 0, _, _, _, _, _, _, _ => none
  | k + 1, x3, x6, x7, x8, x339000, x339001, x339002 => if x339000 = 1 then ((spenceref01_Print.f k x339001).bind fun t339 => (if t339.size + 1 ≤ 9223372036854775807 then (if x3.size + (t339.size + 1) ≤ 9223372036854775807 then (spenceref04_PrintSpecs.l0 k (x3 ++ (t339 ++ (⟨#[45]⟩ : ByteArray))) x6 x7 (wrap64 (x8 + 1))) else (none)) else (none))) else (if x339000 = 2 then ((spenceref01_Print.f k x339001).bind fun t340 => (if t340.size + 1 ≤ 9223372036854775807 then ((spenceref01_Print.f k x339002).bind fun t341 => (if t340.size + 1 + t341.size ≤ 9223372036854775807 then (if x3.size + (t340.size + 1 + t341.size) ≤ 9223372036854775807 then (spenceref04_PrintSpecs.l0 k (x3 ++ ((t340 ++ (⟨#[45]⟩ : ByteArray)) ++ t341)) x6 x7 (wrap64 (x8 + 1))) else (none)) else (none))) else (none))) else (if x339000 = 3 then ((spenceref01_Print.f k x339001).bind fun t342 => (if 1 + t342.size ≤ 9223372036854775807 then (if x3.size + (1 + t342.size) ≤ 9223372036854775807 then (spenceref04_PrintSpecs.l0 k (x3 ++ ((⟨#[45]⟩ : ByteArray) ++ t342)) x6 x7 (wrap64 (x8 + 1))) else (none)) else (none))) else (if x3.size + 1 ≤ 9223372036854775807 then (spenceref04_PrintSpecs.l0 k (x3 ++ (⟨#[63]⟩ : ByteArray)) x6 x7 (wrap64 (x8 + 1))) else (none))))
end
def spenceref04_PrintSpecs.f (k : Nat) (l0 : List (S33)) : Option (ByteArray) := spenceref04_PrintSpecs.l0 k (⟨#[98, 121, 116, 101, 115, 61]⟩ : ByteArray) l0 (l0.length : Int) 0
theorem spenceref04_PrintSpecs.mono_l : ∀ k, (∀ y0 y1 y2 y3, LeO (spenceref04_PrintSpecs.l0 k y0 y1 y2 y3) (spenceref04_PrintSpecs.l0 (k + 1) y0 y1 y2 y3)) ∧ (∀ y0 y1 y2 y3 y4 y5 y6, LeO (spenceref04_PrintSpecs.j1 k y0 y1 y2 y3 y4 y5 y6) (spenceref04_PrintSpecs.j1 (k + 1) y0 y1 y2 y3 y4 y5 y6))
  | 0 => ⟨fun _ _ _ _ r h => by simp [spenceref04_PrintSpecs.l0] at h, fun _ _ _ _ _ _ _ r h => by simp [spenceref04_PrintSpecs.j1] at h⟩
  | k + 1 => by
    obtain ⟨ih0, ih1⟩ := spenceref04_PrintSpecs.mono_l k
    refine ⟨?_, ?_⟩
    · intro y0 y1 y2 y3
      unfold spenceref04_PrintSpecs.l0
      repeat' first
      | (with_reducible exact ih0 _ _ _ _)
      | (with_reducible exact ih1 _ _ _ _ _ _ _)
      | (with_reducible exact spenceref01_Print.mono _ _)
      | (with_reducible exact LeO.refl _)
      | (with_reducible exact LeO.none _)
      | (with_reducible refine LeO.ite ?_ ?_)
      | (with_reducible refine LeO.bind ?_ (fun _ => ?_))
      | exact ih0 _ _ _ _
      | exact ih1 _ _ _ _ _ _ _
      | exact spenceref01_Print.mono _ _
      | exact LeO.none _
      | refine LeO.ite ?_ ?_
      | refine LeO.bind ?_ (fun _ => ?_)
    · intro y0 y1 y2 y3 y4 y5 y6
      unfold spenceref04_PrintSpecs.j1
      repeat' first
      | (with_reducible exact ih0 _ _ _ _)
      | (with_reducible exact ih1 _ _ _ _ _ _ _)
      | (with_reducible exact spenceref01_Print.mono _ _)
      | (with_reducible exact LeO.refl _)
      | (with_reducible exact LeO.none _)
      | (with_reducible refine LeO.ite ?_ ?_)
      | (with_reducible refine LeO.bind ?_ (fun _ => ?_))
      | exact ih0 _ _ _ _
      | exact ih1 _ _ _ _ _ _ _
      | exact spenceref01_Print.mono _ _
      | exact LeO.none _
      | refine LeO.ite ?_ ?_
      | refine LeO.bind ?_ (fun _ => ?_)
theorem spenceref04_PrintSpecs.mono : ∀ a0 k, LeO (spenceref04_PrintSpecs.f k a0) (spenceref04_PrintSpecs.f (k + 1) a0) := by
  intro a0 k
  obtain ⟨ih0, ih1⟩ := spenceref04_PrintSpecs.mono_l k
  unfold spenceref04_PrintSpecs.f
  repeat' first
      | (with_reducible exact ih0 _ _ _ _)
      | (with_reducible exact ih1 _ _ _ _ _ _ _)
      | (with_reducible exact spenceref01_Print.mono _ _)
      | (with_reducible exact LeO.refl _)
      | (with_reducible exact LeO.none _)
      | (with_reducible refine LeO.ite ?_ ?_)
      | (with_reducible refine LeO.bind ?_ (fun _ => ?_))
      | exact ih0 _ _ _ _
      | exact ih1 _ _ _ _ _ _ _
      | exact spenceref01_Print.mono _ _
      | exact LeO.none _
      | refine LeO.ite ?_ ?_
      | refine LeO.bind ?_ (fun _ => ?_)
end Go.Proofs.YtndghocppadimaaDoor.PAll
namespace Go.Proofs.YtndghocppadimaaDoor.Pure
open Go.RowKit Go.Proofs.YtndghocppadimaaDoor.PAll Go.Proofs.YtndghocppadimaaDoorW.PrintWords Go.Proofs.YtndghocppadimaaDoorW.PrintLast Go.Proofs.YtndghocppadimaaDoorW.PrintMore
theorem u64_mod (x : Int) : IntKind.u64.wrap x = x % 18446744073709551616 := by
  unfold IntKind.wrap; simp [IntKind.signed, IntKind.bits]
theorem u64_id {x : Int} (h : 0 ≤ x ∧ x < 18446744073709551616) : IntKind.u64.wrap x = x := by rw [u64_mod]; omega
/-- a number's text -/
def ptext (n : Int) : List Int := if n < 0 then 45 :: dig n.natAbs else dig n.toNat
theorem dig_isB (u : Nat) : ∀ b ∈ dig u, isB b := by
  intro b hb
  have := List.all_eq_true.1 (dig_all u).1 b hb
  rw [isDig_iff] at this
  unfold isB; omega
theorem ptext_isB (n : Int) : ∀ b ∈ ptext n, isB b := by
  intro b hb
  unfold ptext at hb
  split at hb
  · rcases List.mem_cons.1 hb with rfl | h
    · unfold isB; omega
    · exact dig_isB _ b h
  · exact dig_isB _ b hb
theorem dig_len (u : Nat) (h : u < 18446744073709551616) : (dig u).length ≤ 20 := dig_length u 19 (by omega)
theorem rdig_len (u : Nat) (h : u < 18446744073709551616) : (rdig u).length ≤ 20 := by have := dig_len u h; unfold dig at this; simpa using this
theorem pdigit (u : Nat) : (IntKind.u64.wrap (48 + Int.tmod u 10)) % 256 = 48 + ((u % 10 : Nat) : Int) := by
  have h : Int.tmod (u : Int) 10 = ((u % 10 : Nat) : Int) := by rw [Int.tmod_eq_emod_of_nonneg (by omega)]; omega
  rw [h, u64_id (by omega)]; omega
theorem pdiv (u : Nat) (h : u < 18446744073709551616) : IntKind.u64.wrap (Int.tdiv u 10) = ((u / 10 : Nat) : Int) := by
  have e : Int.tdiv (u : Int) 10 = ((u / 10 : Nat) : Int) := by rw [Int.tdiv_eq_ediv_of_nonneg (by omega)]; omega
  rw [e, u64_id (by omega)]
theorem print_loop (pre : List Int) (hp : pre.length ≤ 10) (u : Nat) : u < 18446744073709551616 → ∀ acc : List Int, acc.length ≤ 40 → (acc ++ rdig u).length ≤ 40 →
    Ev (fun k => nums_Print.l0 k (u : Int) (strOfNums pre) acc) (strOfNums (pre ++ (acc ++ rdig u).reverse)) := by
  induction u using Nat.strongRecOn with
  | _ u ih =>
    intro hu acc ha hb
    have e : pre.length + (acc ++ rdig u).length ≤ 50 := by omega
    by_cases h : u < 10
    · have hr : rdig u = [48 + ((u % 10 : Nat) : Int)] := by rw [rdig, if_pos h]; congr 2; omega
      obtain ⟨K, hK⟩ := reverse_ev (acc ++ [48 + ((u % 10 : Nat) : Int)]) (by simp; omega)
      refine ⟨K + 1, fun k hk => ?_⟩
      obtain ⟨k, rfl⟩ : ∃ j, k = j + 1 := ⟨k - 1, by omega⟩
      have hk2 := hK k (by omega)
      dsimp only at hk2
      simp only [nums_Print.l0, pdigit, pdiv u hu, Option.bind_some]
      rw [if_pos (by omega), if_pos (by omega), hk2]
      simp only [Option.bind_some, size_str]
      rw [if_pos (by simp; omega), str_append, hr]
    · have hr : rdig u = (48 + ((u % 10 : Nat) : Int)) :: rdig (u / 10) := by rw [rdig, if_neg h]
      rw [hr] at hb ⊢
      obtain ⟨K, hK⟩ := ih (u / 10) (by omega) (by omega) (acc ++ [48 + ((u % 10 : Nat) : Int)]) (by simp at hb ⊢; omega) (by simpa using hb)
      refine ⟨K + 1, fun k hk => ?_⟩
      obtain ⟨k, rfl⟩ : ∃ j, k = j + 1 := ⟨k - 1, by omega⟩
      have hk2 := hK k (by omega)
      dsimp only at hk2
      simp only [nums_Print.l0, pdigit, pdiv u hu, Option.bind_some]
      rw [if_pos (by omega), if_neg (by omega), hk2]
      simp
theorem print_ev (n : Int) (h : -9223372036854775808 ≤ n ∧ n ≤ 9223372036854775807) : Ev (fun k => nums_Print.f k n) (strOfNums (ptext n)) := by
  unfold ptext
  by_cases h0 : n < 0
  · have e1 : IntKind.u64.wrap n = n + 18446744073709551616 := by rw [u64_mod]; omega
    have e2 : IntKind.u64.wrap (-(n + 18446744073709551616)) = (n.natAbs : Int) := by rw [u64_mod]; omega
    have hr := rdig_len n.natAbs (by omega)
    obtain ⟨K, hK⟩ := print_loop [45] (by simp) n.natAbs (by omega) [] (by simp) (by simp; omega)
    refine ⟨K + 1, fun k hk => ?_⟩
    obtain ⟨k, rfl⟩ : ∃ j, k = j + 1 := ⟨k - 1, by omega⟩
    have hk2 := hK k (by omega)
    dsimp only at hk2
    simp only [nums_Print.f, nums_Print.j0, e1, e2]
    rw [if_pos h0, if_pos h0]
    exact hk2
  · have e1 : IntKind.u64.wrap n = (n.toNat : Int) := by rw [u64_mod]; omega
    have hr := rdig_len n.toNat (by omega)
    obtain ⟨K, hK⟩ := print_loop [] (by simp) n.toNat (by omega) [] (by simp) (by simp; omega)
    refine ⟨K + 1, fun k hk => ?_⟩
    obtain ⟨k, rfl⟩ : ∃ j, k = j + 1 := ⟨k - 1, by omega⟩
    have hk2 := hK k (by omega)
    dsimp only at hk2
    simp only [nums_Print.f, nums_Print.j0, e1]
    rw [if_neg h0, if_neg h0]
    exact hk2
end Go.Proofs.YtndghocppadimaaDoor.Pure
namespace Go.Proofs.YtndghocppadimaaDoor.Pure
open Go.RowKit Go.Proofs.YtndghocppadimaaDoor.PAll Go.Proofs.YtndghocppadimaaDoorW.PrintWords Go.Proofs.YtndghocppadimaaDoorW.PrintLast Go.Proofs.YtndghocppadimaaDoorW.PrintMore
theorem less_lex : ∀ (x y : List UInt8), Op.bytesLess x y = lexlt (i8s x) (i8s y)
  | [], [] => by simp [Op.bytesLess, lexlt, i8s]
  | [], _ :: _ => by simp [Op.bytesLess, lexlt, i8s]
  | _ :: _, [] => by simp [Op.bytesLess, lexlt, i8s]
  | a :: x, b :: y => by
    have h := less_lex x y
    have e1 : decide (a < b) = decide ((a.toNat : Int) < (b.toNat : Int)) := by rw [decide_eq_decide, UInt8.lt_iff_toNat_lt]; omega
    have e2 : (a == b) = decide ((a.toNat : Int) = (b.toNat : Int)) := by
      by_cases h : a = b
      · subst h; simp
      · have : ¬ (a.toNat : Int) = (b.toNat : Int) := fun e => h (UInt8.toNat_inj.1 (by omega))
        rw [decide_eq_false this]; simpa using h
    simp only [Op.bytesLess, i8s, List.map_cons, lexlt]
    rw [e1, e2, h]; rfl
theorem pow_le {a b : Nat} (h : a ≤ b) : (10 : Int) ^ a ≤ (10 : Int) ^ b := by
  have h1 : (10 : Nat) ^ a ≤ 10 ^ b := Nat.pow_le_pow_right (by omega) h
  have e1 : ((10 ^ a : Nat) : Int) = (10 : Int) ^ a := by simp
  have e2 : ((10 ^ b : Nat) : Int) = (10 : Int) ^ b := by simp
  rw [← e1, ← e2]; omega
end Go.Proofs.YtndghocppadimaaDoor.Pure
namespace Go.Proofs.YtndghocppadimaaDoor.Pure
open Go.RowKit Go.Proofs.YtndghocppadimaaDoor.Xw Go.Proofs.YtndghocppadimaaDoor.PAll Go.Proofs.YtndghocppadimaaDoorW.PrintWords Go.Proofs.YtndghocppadimaaDoorW.PrintLast Go.Proofs.YtndghocppadimaaDoorW.PrintMore
def bareL (l : List Int) : List Int := l.dropWhile fun b => b == 48
def lessL (x y : List Int) : Bool := if (bareL x).length = (bareL y).length then lexlt (bareL x) (bareL y) else decide ((bareL x).length < (bareL y).length)
def e4 (e : Int) : Int × Int × Int × Int := (0, 0, 0, e)
def singleV (kind : Int) (l : List Int) : Int × Int × Int × Int := if (parse l).2 = 0 then (kind, (parse l).1, 0, 0) else e4 (parse l).2
def bothV (a b : List Int) : Int × Int × Int × Int :=
  if (parse a).2 = 3 ∨ (parse b).2 = 3 ∨ lessL b a = true then e4 3
  else if (parse a).2 = 0 ∧ (parse b).2 = 0 then (2, (parse a).1, (parse b).1, 0) else e4 9
def oneOf (l : List Int) : Int × Int × Int × Int :=
  if (cutOf 45 l).2.2 = true then (if (cutOf 45 l).1 = [] then singleV 3 (cutOf 45 l).2.1 else if (cutOf 45 l).2.1 = [] then singleV 1 (cutOf 45 l).1 else bothV (cutOf 45 l).1 (cutOf 45 l).2.1) else e4 3
theorem cut_facts5 (b : Int) (l : List Int) (h : ∀ x ∈ l, isB x) : (cutOf b l).1.length ≤ l.length ∧ (cutOf b l).2.1.length ≤ l.length ∧ (∀ x ∈ (cutOf b l).1, isB x) ∧ (∀ x ∈ (cutOf b l).2.1, isB x) := by
  cases hc : (cutOf b l).2.2
  · obtain ⟨h1, h2, -⟩ := cutOf_no b l hc
    rw [h1, h2]; exact ⟨Nat.le_refl _, Nat.zero_le _, h, by simp⟩
  · obtain ⟨h1, -⟩ := cutOf_yes b l hc
    have hl := congrArg List.length h1
    rw [List.length_append, List.length_cons] at hl
    refine ⟨by omega, by omega, fun x hx => h x ?_, fun x hx => h x ?_⟩
    · rw [h1]; exact List.mem_append.2 (.inl hx)
    · rw [h1]; exact List.mem_append.2 (.inr (List.mem_cons_of_mem _ hx))
theorem parse_kind5 (l : List Int) : (parse l).2 = 0 ∨ (parse l).2 = 3 ∨ (parse l).2 = 9 := by
  unfold parse; split
  · simp
  · split <;> simp
theorem bareL_isB {l : List Int} (h : ∀ b ∈ l, isB b) : ∀ b ∈ bareL l, isB b := fun b hb => h b ((List.dropWhile_sublist _).mem hb)
theorem bareL_cons (b : Int) (l : List Int) : bareL (b :: l) = if b = 48 then bareL l else b :: l := by
  unfold bareL
  rw [List.dropWhile_cons]
  by_cases h : b = 48
  · subst h; rfl
  · have : (b == 48) = false := by simpa using h
    rw [this, if_neg h]; rfl
theorem bareL_val (l : List Int) : fval 0 l = fval 0 (bareL l) := by
  induction l with
  | nil => rfl
  | cons b l ih =>
    rw [bareL_cons]
    by_cases h : b = 48
    · subst h; rw [if_pos rfl, ← ih, fval_cons]; rfl
    · rw [if_neg h]
theorem bareL_all (l : List Int) (h : l.all isDig = true) : (bareL l).all isDig = true := by
  rw [List.all_eq_true] at h ⊢
  exact fun b hb => h b ((List.dropWhile_sublist _).mem hb)
theorem bareL_head (l : List Int) : bareL l = [] ∨ ∃ c r, bareL l = c :: r ∧ c ≠ 48 := by
  induction l with
  | nil => exact .inl rfl
  | cons b l ih =>
    rw [bareL_cons]
    by_cases h : b = 48
    · rw [if_pos h]; exact ih
    · rw [if_neg h]; exact .inr ⟨b, l, rfl, h⟩
theorem shorter_less (x y : List Int) (hx : x.all isDig = true) (hy : y.all isDig = true) (h : (bareL x).length < (bareL y).length) : fval 0 x < fval 0 y := by
  rw [bareL_val x, bareL_val y]
  have h1 := fval_lt (bareL x) 0 (by omega) (bareL_all x hx)
  have hb := bareL_all y hy
  rcases bareL_head y with e | ⟨c, r, e, hc⟩
  · rw [e] at h; simp at h
  · rw [e] at h hb ⊢
    rw [List.all_cons, Bool.and_eq_true] at hb
    have hd := (isDig_iff c).1 hb.1
    have h2 := fval_lo r (10 * 0 + (c - 48)) (by omega) hb.2
    rw [← fval_cons] at h2
    have hp : (10 : Int) ^ (bareL x).length ≤ (10 : Int) ^ r.length := pow_le (by simp at h; omega)
    have h3 : (1 : Int) * (10 : Int) ^ r.length ≤ (10 * 0 + (c - 48)) * (10 : Int) ^ r.length := Int.mul_le_mul_of_nonneg_right (by omega) (Int.le_of_lt (Int.pow_pos (by decide)))
    omega
theorem less_fval (x y : List Int) (hx : x.all isDig = true) (hy : y.all isDig = true) : lessL x y = decide (fval 0 x < fval 0 y) := by
  unfold lessL
  by_cases h : (bareL x).length = (bareL y).length
  · rw [if_pos h, Bool.eq_iff_iff, decide_eq_true_iff, lex_fval _ _ 0 (by omega) h (bareL_all x hx) (bareL_all y hy), ← bareL_val, ← bareL_val]
  · rw [if_neg h, decide_eq_decide]
    rcases Nat.lt_or_ge (bareL x).length (bareL y).length with h1 | h1
    · exact ⟨fun _ => shorter_less x y hx hy h1, fun _ => h1⟩
    · have := shorter_less y x hy hx (by omega)
      exact ⟨fun g => by omega, fun g => by omega⟩
theorem parse_s (x : List Int) (hx : ∀ b ∈ x, isB b) (hl : x.length ≤ 10000) : Ev (fun k => nums_Parse.f k (strOfNums x)) (parse x) := by
  have hp := parse_ev (strOfNums x) (by rw [size_str]; omega)
  rwa [bytesOf_str _ hx] at hp
theorem bare_eq (x : List Int) (hx : ∀ b ∈ x, isB b) : spec_bare.f (strOfNums x) = some (strOfNums (bareL x)) := by
  unfold spec_bare.f strings_TrimLeft.f
  rw [if_pos rfl, bytesOf_str _ hx]; rfl
theorem nil_iff (x : List Int) (hx : ∀ b ∈ x, isB b) : (strOfNums x).toList = ([] : List UInt8) ↔ x = [] := by
  rw [toList_nil, bytesOf_str _ hx]
theorem less_str (x y : List Int) (hx : ∀ b ∈ x, isB b) (hy : ∀ b ∈ y, isB b) : Op.bytesLess (strOfNums x).toList (strOfNums y).toList = lexlt x y := by
  rw [less_lex, ← bytesOf_i8, ← bytesOf_i8, bytesOf_str _ hx, bytesOf_str _ hy]
theorem late_eq (e : Int) (a b : List Int) (ha : ∀ x ∈ a, isB x) (hb : ∀ x ∈ b, isB x) : spec_late.f e (strOfNums a) (strOfNums b) = some (if e = 9 ∧ lessL b a = true then 3 else e) := by
  unfold spec_late.f
  rw [bare_eq a ha, bare_eq b hb]
  simp only [Option.bind_some, size_str]
  unfold lessL
  rw [less_str _ _ (bareL_isB hb) (bareL_isB ha)]
  by_cases h9 : e = 9
  · simp only [h9, if_true, true_and]
    by_cases h : (bareL b).length = (bareL a).length
    · rw [if_neg (by omega), if_pos (by omega), if_pos h]
      cases lexlt (bareL b) (bareL a) <;> simp
    · rw [if_neg (show ¬ (((bareL b).length : Int) = (bareL a).length) by omega), if_neg h]
      by_cases h2 : (bareL b).length < (bareL a).length
      · rw [if_pos (by omega), decide_eq_true h2, if_pos rfl]
      · rw [if_neg (by omega), decide_eq_false h2, if_neg (by decide)]
  · rw [if_neg h9, if_neg (fun g => h9 g.1)]
def worseS (a b : Int) : Int := if a = 3 ∨ b = 0 then a else if b = 3 ∨ a = 0 then b else a
theorem worse_ev (a b : Int) : Ev (fun k => spec_worse.f k a b) (worseS a b) := by
  unfold spec_worse.f worseS
  refine Ev.pos fun k => ?_
  simp only [spec_worse.j0]
  by_cases h1 : a = 3
  · simp [h1]
  · by_cases h2 : b = 0
    · simp [h1, h2]
    · by_cases h3 : b = 3
      · simp [h1, h3]
      · by_cases h4 : a = 0
        · simp [h2, h3, h4]
        · simp [h1, h2, h3, h4]
theorem single_ev (kind : Int) (x : List Int) (hx : ∀ b ∈ x, isB b) (hl : x.length ≤ 10000) : Ev (fun k => spec_single.f k kind (strOfNums x)) (singleV kind x) := by
  refine Ev.bind (parse_s x hx hl) (Ev.all fun k => ?_)
  unfold singleV e4
  by_cases h : (parse x).2 = 0
  · rw [if_pos h, if_pos h]
  · rw [if_neg h, if_neg h]
theorem parse_val (x : List Int) (h : (parse x).2 = 0) : x.all isDig = true ∧ (parse x).1 = fval 0 x := by
  unfold parse at h ⊢
  split at h
  · exact absurd h (by decide)
  · rename_i h1
    rw [if_neg h1]
    split at h
    · exact absurd h (by decide)
    · rename_i h2
      rw [if_neg h2]
      exact ⟨by have := fun e => h1 (.inr e); simpa using this, rfl⟩
theorem both_ev (a b : List Int) (ha : ∀ x ∈ a, isB x) (hb : ∀ x ∈ b, isB x) (la : a.length ≤ 10000) (lb : b.length ≤ 10000) : Ev (fun k => spec_both.f k (strOfNums a) (strOfNums b)) (bothV a b) := by
  refine Ev.bind (parse_s a ha la) ?_
  refine Ev.bind (parse_s b hb lb) ?_
  refine Ev.bind (worse_ev _ _) (Ev.all fun k => ?_)
  rw [late_eq _ a b ha hb]
  unfold bothV worseS e4
  rcases parse_kind5 a with e1 | e1 | e1 <;> rcases parse_kind5 b with e2 | e2 | e2
  · obtain ⟨d1, v1⟩ := parse_val a e1
    obtain ⟨d2, v2⟩ := parse_val b e2
    rw [less_fval b a d2 d1, ← v1, ← v2]
    by_cases h : (parse b).1 < (parse a).1 <;> simp [e1, e2, h]
  all_goals (rw [e1, e2]; cases lessL b a <;> simp)
theorem one_ev (l : List Int) (h : ∀ b ∈ l, isB b) (hl : l.length ≤ 10000) : Ev (fun k => spec_One.f k (strOfNums l)) (oneOf l) := by
  have f := cut_facts5 45 l h
  have q := cut_eq (strOfNums l) 45 (by unfold isB; omega) (by rw [size_str]; omega)
  rw [bytesOf_str _ h] at q
  unfold spec_One.f oneOf
  simp only [q, Option.bind_some]
  cases (cutOf 45 l).2.2
  · simp only [Bool.false_eq_true, if_false]; exact Ev.now _
  simp only [if_true]
  by_cases h1 : (cutOf 45 l).1 = []
  · have n1 := (nil_iff _ f.2.2.1).2 h1
    simp only [n1, if_true]; rw [if_pos h1]
    exact Ev.bind (single_ev 3 _ f.2.2.2 (by omega)) (Ev.now _)
  have n1 : ¬ (strOfNums (cutOf 45 l).1).toList = ([] : List UInt8) := fun e => h1 ((nil_iff _ f.2.2.1).1 e)
  simp only [n1, if_false]; rw [if_neg h1]
  by_cases h2 : (cutOf 45 l).2.1 = []
  · have n2 := (nil_iff _ f.2.2.2).2 h2
    simp only [n2, if_true]; rw [if_pos h2]
    exact Ev.bind (single_ev 1 _ f.2.2.1 (by omega)) (Ev.now _)
  have n2 : ¬ (strOfNums (cutOf 45 l).2.1).toList = ([] : List UInt8) := fun e => h2 ((nil_iff _ f.2.2.2).1 e)
  simp only [n2, if_false]; rw [if_neg h2]
  exact Ev.bind (both_ev _ _ f.2.2.1 f.2.2.2 (by omega) (by omega)) (Ev.now _)
end Go.Proofs.YtndghocppadimaaDoor.Pure
namespace Go.Proofs.YtndghocppadimaaDoor.Pure
open Go.RowKit Go.Proofs.YtndghocppadimaaDoor.Xw Go.Proofs.YtndghocppadimaaDoor.PAll Go.Proofs.YtndghocppadimaaDoorW.PrintWords Go.Proofs.YtndghocppadimaaDoorW.PrintLast Go.Proofs.YtndghocppadimaaDoorW.PrintMore
/-- what the rest of a list comes to: whether there is any, whether it is the first element -/
def lists : Nat → List Int → Bool → Option (List (List Int))
  | 0, _, _ => none
  | n + 1, l, first =>
    if trim (cutOf 44 l).1 = [] then
      (if first = true ∧ (cutOf 44 l).2.2 = false ∧ (cutOf 44 l).1 ≠ [] then none
       else if (cutOf 44 l).2.2 then lists n (cutOf 44 l).2.1 false else some [])
    else if first = true ∧ isBl (rd (cutOf 44 l).1 0) = true then none
    else if (cutOf 44 l).2.2 then (lists n (cutOf 44 l).2.1 false).map (trim (cutOf 44 l).1 :: ·)
    else if isBl (rd (cutOf 44 l).1 (((cutOf 44 l).1.length : Int) - 1)) = true then none else some [trim (cutOf 44 l).1]
def listEnd (out : List ByteArray) : Option (List (List Int)) → List ByteArray × Bool
  | none => ([], false)
  | some ts => (out ++ ts.map strOfNums, true)
theorem listEnd_map (out : List ByteArray) (t : List Int) (o : Option (List (List Int))) : listEnd out (o.map (t :: ·)) = listEnd (out ++ [strOfNums t]) o := by
  cases o with
  | none => rfl
  | some ts => simp [listEnd]
theorem list_stop (out : List ByteArray) (s : ByteArray) (first : Bool) : Ev (fun k => text_List.l0 k out s false first) (out, true) :=
  Ev.pos (fun k => by simp [text_List.l0])
theorem cut_size (l : List Int) (h : (cutOf 44 l).2.2 = true) : (cutOf 44 l).1.length + (cutOf 44 l).2.1.length + 1 = l.length := by
  have := congrArg List.length (cutOf_yes 44 l h).1
  rw [List.length_append, List.length_cons] at this
  omega
theorem cut_len (l : List Int) : (cutOf 44 l).1.length ≤ l.length := by
  cases h : (cutOf 44 l).2.2
  · rw [(cutOf_no 44 l h).1]; exact Nat.le_refl _
  · have := cut_size l h; omega
theorem cut_mem1 {l : List Int} {b : Int} (h : b ∈ (cutOf 44 l).1) : b ∈ l := by
  cases hc : (cutOf 44 l).2.2
  · rwa [(cutOf_no 44 l hc).1] at h
  · rw [(cutOf_yes 44 l hc).1]; exact List.mem_append.2 (.inl h)
theorem cut_mem2 {l : List Int} {b : Int} (h : b ∈ (cutOf 44 l).2.1) : b ∈ l := by
  cases hc : (cutOf 44 l).2.2
  · rw [(cutOf_no 44 l hc).2.1] at h; cases h
  · rw [(cutOf_yes 44 l hc).1]; exact List.mem_append.2 (.inr (List.mem_cons_of_mem _ h))
theorem list_loop (n : Nat) : ∀ (l : List Int) (out : List ByteArray) (first : Bool), (∀ b ∈ l, isB b) → l.length < n → out.length + l.length + 1 ≤ 8796093022208 →
    Ev (fun k => text_List.l0 k out (strOfNums l) true first) (listEnd out (lists n l first)) := by
  induction n with
  | zero => intro l out first _ h; omega
  | succ n ih =>
    intro l out first hl hn ho
    have hc := cut_eq (strOfNums l) 44 (by unfold isB; omega) (by rw [size_str]; omega)
    rw [bytesOf_str l hl] at hc
    have hcl := cut_len l
    have hcb : ∀ b ∈ (cutOf 44 l).1, isB b := fun b hb => hl b (cut_mem1 hb)
    have ht := trim_ev (strOfNums (cutOf 44 l).1) (by rw [size_str]; omega)
    rw [bytesOf_str _ hcb] at ht
    have htb : ∀ b ∈ trim (cutOf 44 l).1, isB b := fun b hb => hcb b (trim_mem hb)
    have htn : (strOfNums (trim (cutOf 44 l).1)).toList = ([] : List UInt8) ↔ trim (cutOf 44 l).1 = [] := by rw [toList_nil, bytesOf_str _ htb]
    have hcn : (strOfNums (cutOf 44 l).1).toList = ([] : List UInt8) ↔ (cutOf 44 l).1 = [] := by rw [toList_nil, bytesOf_str _ hcb]
    have hnext : ∀ out2 : List ByteArray, out2.length ≤ out.length + 1 → Ev (fun k => text_List.l0 k out2 (strOfNums (cutOf 44 l).2.1) (cutOf 44 l).2.2 false) (listEnd out2 (if (cutOf 44 l).2.2 then lists n (cutOf 44 l).2.1 false else some [])) := by
      intro out2 h2
      cases hx : (cutOf 44 l).2.2
      · have := list_stop out2 (strOfNums (cutOf 44 l).2.1) false
        rw [if_neg (by decide)]; unfold listEnd; simpa using this
      · have := cut_size l hx
        rw [if_pos rfl]
        exact ih _ _ _ (fun b hb => hl b (cut_mem2 hb)) (by omega) (by omega)
    refine Ev.succ ?_
    simp only [text_List.l0, hc, Option.bind_some, if_true]
    refine Ev.bind ht ?_
    rw [lists]
    by_cases hz : trim (cutOf 44 l).1 = []
    · rw [if_pos hz]
      have hz2 := htn.2 hz
      simp only [hz2, if_true]
      cases first with
      | false =>
        simp only [Bool.false_eq_true, if_false, false_and]
        exact hnext out (by omega)
      | true =>
        simp only [if_true, true_and]
        cases hx : (cutOf 44 l).2.2
        · simp only [Bool.false_eq_true, if_false, true_and]
          by_cases hq : (cutOf 44 l).1 = []
          · have hq2 := hcn.2 hq
            simp only [hq2, if_true]
            rw [if_neg (fun h => h hq)]
            have := hnext out (by omega)
            rw [hx] at this
            simpa using this
          · have hq2 : ¬ (strOfNums (cutOf 44 l).1).toList = ([] : List UInt8) := fun h => hq (hcn.1 h)
            simp only [hq2, if_false]
            rw [if_pos hq]
            exact Ev.now _
        · simp only [if_true, Bool.true_eq_false, false_and, if_false]
          have := hnext out (by omega)
          rw [hx] at this
          simpa using this
    · rw [if_neg hz]
      have hz2 : ¬ (strOfNums (trim (cutOf 44 l).1)).toList = ([] : List UInt8) := fun h => hz (htn.1 h)
      have hpos : 0 < (cutOf 44 l).1.length := by
        rcases Nat.eq_zero_or_pos (cutOf 44 l).1.length with h | h
        · exact absurd (by rw [List.eq_nil_of_length_eq_zero h]; rfl) hz
        · exact h
      have hw : wrap64 (((cutOf 44 l).1.length : Int) - 1) = ((cutOf 44 l).1.length : Int) - 1 := wrap_id (by omega)
      simp only [hz2, if_false, blank_eq, Option.bind_some, size_str, bt_str _ hcb, hw, show (0 : Int) < ((cutOf 44 l).1.length : Int) by omega, show (0 : Int) ≤ ((cutOf 44 l).1.length : Int) - 1 by omega, show ((cutOf 44 l).1.length : Int) - 1 < ((cutOf 44 l).1.length : Int) by omega, if_true, show out.length < 8796093022208 by omega]
      have key : Ev (fun k => if (cutOf 44 l).2.2 = true then text_List.l0 k (out ++ [strOfNums (trim (cutOf 44 l).1)]) (strOfNums (cutOf 44 l).2.1) (cutOf 44 l).2.2 false
            else if isBl (rd (cutOf 44 l).1 (((cutOf 44 l).1.length : Int) - 1)) = true then some ([], false) else text_List.l0 k (out ++ [strOfNums (trim (cutOf 44 l).1)]) (strOfNums (cutOf 44 l).2.1) (cutOf 44 l).2.2 false)
          (listEnd out (if (cutOf 44 l).2.2 then (lists n (cutOf 44 l).2.1 false).map (trim (cutOf 44 l).1 :: ·) else if isBl (rd (cutOf 44 l).1 (((cutOf 44 l).1.length : Int) - 1)) = true then none else some [trim (cutOf 44 l).1])) := by
        have hnx := hnext (out ++ [strOfNums (trim (cutOf 44 l).1)]) (by simp)
        cases hx : (cutOf 44 l).2.2
        · rw [hx] at hnx
          simp only [Bool.false_eq_true, if_false] at hnx ⊢
          by_cases hq : isBl (rd (cutOf 44 l).1 (((cutOf 44 l).1.length : Int) - 1)) = true
          · simp only [hq, if_true]; exact Ev.now _
          · simp only [hq, Bool.false_eq_true, if_false]
            simpa [listEnd] using hnx
        · rw [hx] at hnx
          simp only [if_true] at hnx ⊢
          rw [listEnd_map]
          exact hnx
      cases first with
      | false =>
        simp only [Bool.false_eq_true, if_false, false_and]
        exact key
      | true =>
        simp only [if_true, true_and]
        by_cases hq : isBl (rd (cutOf 44 l).1 0) = true
        · simp only [hq, if_true]; exact Ev.now _
        · simp only [hq, Bool.false_eq_true, if_false]
          exact key
theorem list_ev (s : ByteArray) (hs : s.size + 1 ≤ 8796093022208) : Ev (fun k => text_List.f k s) (listEnd [] (lists (s.size + 1) (bytesOf s) true)) := by
  have := list_loop (s.size + 1) (bytesOf s) [] true (bytesOf_isB s) (by rw [bytesOf_length]; omega) (by rw [bytesOf_length]; simpa using hs)
  rw [str_bytes] at this
  exact this
end Go.Proofs.YtndghocppadimaaDoor.Pure
namespace Go.Proofs.YtndghocppadimaaDoor.Pure
open Go.RowKit Go.Proofs.YtndghocppadimaaDoor.PAll Go.Proofs.YtndghocppadimaaDoorW.PrintWords Go.Proofs.YtndghocppadimaaDoorW.PrintLast Go.Proofs.YtndghocppadimaaDoorW.PrintMore
def piecesOf (cur : List Int) : List Int → List (List Int)
  | [] => [cur]
  | b :: l => if b = 44 then cur :: piecesOf [] l else piecesOf (cur ++ [b]) l
theorem piecesOf_cut : ∀ (l cur : List Int), piecesOf cur l = if (cutOf 44 l).2.2 then (cur ++ (cutOf 44 l).1) :: piecesOf [] (cutOf 44 l).2.1 else [cur ++ (cutOf 44 l).1]
  | [], cur => by simp [piecesOf, cutOf]
  | b :: l, cur => by
    have ih := piecesOf_cut l (cur ++ [b])
    rw [piecesOf, cutOf]
    by_cases h : b = 44
    · rw [if_pos h, if_pos h]; simp
    · rw [if_neg h, if_neg h, ih]; simp
theorem piecesOf_ne (l cur : List Int) : piecesOf cur l ≠ [] := by
  rw [piecesOf_cut]; split <;> simp
theorem piecesOf_isB : ∀ (l cur : List Int), (∀ b ∈ l, isB b) → (∀ b ∈ cur, isB b) → ∀ p ∈ piecesOf cur l, ∀ b ∈ p, isB b
  | [], cur, _, hc, p, hp => by rw [piecesOf, List.mem_singleton] at hp; rw [hp]; exact hc
  | x :: l, cur, hl, hc, p, hp => by
    have hl2 : ∀ b ∈ l, isB b := fun b hb => hl b (List.mem_cons_of_mem _ hb)
    rw [piecesOf] at hp
    by_cases h : x = 44
    · rw [if_pos h] at hp
      rcases List.mem_cons.1 hp with e | e
      · rw [e]; exact hc
      · exact piecesOf_isB l [] hl2 (by simp) p e
    · rw [if_neg h] at hp
      refine piecesOf_isB l (cur ++ [x]) hl2 (fun b hb => ?_) p hp
      rcases List.mem_append.1 hb with e | e
      · exact hc b e
      · rw [List.mem_singleton.1 e]; exact hl x List.mem_cons_self
theorem piecesOf_len : ∀ (l cur : List Int), (piecesOf cur l).length ≤ l.length + 1
  | [], cur => by simp [piecesOf]
  | x :: l, cur => by
    rw [piecesOf]
    by_cases h : x = 44
    · rw [if_pos h, List.length_cons, List.length_cons]; have := piecesOf_len l []; omega
    · rw [if_neg h, List.length_cons]; have := piecesOf_len l (cur ++ [x]); omega
theorem piecesOf_size : ∀ (l cur : List Int), ∀ p ∈ piecesOf cur l, p.length ≤ cur.length + l.length
  | [], cur, p, hp => by rw [piecesOf, List.mem_singleton] at hp; rw [hp]; simp
  | x :: l, cur, p, hp => by
    rw [piecesOf] at hp
    by_cases h : x = 44
    · rw [if_pos h] at hp
      rcases List.mem_cons.1 hp with e | e
      · rw [e]; omega
      · have := piecesOf_size l [] p e; simp only [List.length_nil, List.length_cons] at *; omega
    · rw [if_neg h] at hp
      have := piecesOf_size l (cur ++ [x]) p hp
      simp only [List.length_append, List.length_cons, List.length_nil] at *; omega
/-- what the elements of pieces are -/
def lists2 (first : Bool) : List (List Int) → Option (List (List Int))
  | [] => some []
  | p :: r =>
    if trim p = [] then (if first = true ∧ r = [] ∧ p ≠ [] then none else lists2 false r)
    else if first = true ∧ isBl (rd p 0) = true then none
    else if r = [] ∧ isBl (rd p ((p.length : Int) - 1)) = true then none
    else (lists2 false r).map (trim p :: ·)
theorem lists2_cons (first : Bool) (p : List Int) (r : List (List Int)) : lists2 first (p :: r) =
    if trim p = [] then (if first = true ∧ r = [] ∧ p ≠ [] then none else lists2 false r)
    else if first = true ∧ isBl (rd p 0) = true then none
    else if r = [] ∧ isBl (rd p ((p.length : Int) - 1)) = true then none
    else (lists2 false r).map (trim p :: ·) := rfl
theorem lists2_nil (first : Bool) : lists2 first [] = some [] := rfl
theorem lists_lists2 (n : Nat) : ∀ (l : List Int) (first : Bool), l.length < n → lists n l first = lists2 first (piecesOf [] l) := by
  induction n with
  | zero => intro l first h; omega
  | succ n ih =>
    intro l first h
    have e := piecesOf_cut l []
    rw [List.nil_append] at e
    cases hx : (cutOf 44 l).2.2
    · rw [hx, if_neg (by decide)] at e
      rw [e, lists2_cons, lists2_nil, lists, hx]
      simp only [Bool.false_eq_true, if_false, true_and, Option.map_some]
    · have hsz := cut_size l hx
      have hne := piecesOf_ne (cutOf 44 l).2.1 []
      rw [hx, if_pos rfl] at e
      rw [e, lists2_cons, lists, hx, ih _ false (by omega)]
      simp only [Bool.true_eq_false, false_and, and_false, if_false, if_true, hne]
end Go.Proofs.YtndghocppadimaaDoor.Pure
namespace Go.Proofs.YtndghocppadimaaDoor.Pure
open Go.RowKit Go.Proofs.YtndghocppadimaaDoor.Xw Go.Proofs.YtndghocppadimaaDoor.PAll Go.Proofs.YtndghocppadimaaDoorW.PrintWords Go.Proofs.YtndghocppadimaaDoorW.PrintLast Go.Proofs.YtndghocppadimaaDoorW.PrintMore
abbrev SpecS := S33
def mkS (v : Int × Int × Int × Int) : SpecS := ⟨v.1, v.2.1, v.2.2.1⟩
def specsR (out : List SpecS) (bad : Int) : List (List Int) → List SpecS × Int
  | [] => if bad = 0 then (if out.length > 16 then ([], 10) else (out, 0)) else ([], bad)
  | p :: r => specsR (out ++ [mkS (oneOf p)]) (worseS bad (oneOf p).2.2.2) r
def specsE : Option (List (List Int)) → List SpecS × Int
  | some (t :: ts) => specsR [] 0 (t :: ts)
  | _ => ([], 3)
def specsOf (l : List Int) : List SpecS × Int :=
  if (cutOf 61 (trim l)).2.2 = true then (if (cutOf 61 (trim l)).1.map lowI = [98, 121, 116, 101, 115] then specsE (lists2 true (piecesOf [] (cutOf 61 (trim l)).2.1)) else ([], 3)) else ([], 3)
theorem lists2_facts : ∀ (ps : List (List Int)) (first : Bool) (ts : List (List Int)), lists2 first ps = some ts → ts.length ≤ ps.length ∧ ∀ t ∈ ts, ∃ p ∈ ps, t = trim p := by
  intro ps
  induction ps with
  | nil => intro first ts h; rw [lists2_nil] at h; rw [← Option.some.inj h]; simp
  | cons p r ih =>
    intro first ts h
    rw [lists2_cons] at h
    split at h
    · split at h
      · cases h
      · obtain ⟨h1, h2⟩ := ih _ _ h
        exact ⟨by simp; omega, fun t ht => by obtain ⟨q, hq, e⟩ := h2 t ht; exact ⟨q, List.mem_cons_of_mem _ hq, e⟩⟩
    · split at h
      · cases h
      · split at h
        · cases h
        · cases hr : lists2 false r with
          | none => rw [hr] at h; cases h
          | some us =>
            rw [hr] at h
            obtain rfl := Option.some.inj h
            obtain ⟨h1, h2⟩ := ih _ _ hr
            refine ⟨by simp; omega, fun t ht => ?_⟩
            rcases List.mem_cons.1 ht with e | ht
            · exact ⟨p, List.mem_cons_self, e⟩
            · obtain ⟨q, hq, e⟩ := h2 t ht; exact ⟨q, List.mem_cons_of_mem _ hq, e⟩
theorem sparse_loop (ps : List (List Int)) (hp : ∀ p ∈ ps, ∀ b ∈ p, isB b) (hz : ∀ p ∈ ps, p.length ≤ 10000) (hl : ps.length ≤ 10001) (d : Nat) : ∀ (i : Int) (out : List SpecS) (bad : Int), 0 ≤ i → i ≤ ps.length → (ps.length : Int) - i = d → out.length = i.toNat →
    Ev (fun k => spec_Parse.l0 k (ps.map strOfNums) out bad (ps.map strOfNums) ps.length i) (specsR out bad (ps.drop i.toNat)) := by
  induction d with
  | zero =>
    intro i out bad h0 h1 hd ho
    refine Ev.pos (fun k => ?_)
    have : ps.drop i.toNat = [] := List.drop_of_length_le (by omega)
    simp only [spec_Parse.l0]
    rw [if_neg (by omega), this, specsR, List.length_map]
    by_cases hb : bad = 0
    · rw [if_pos hb, if_pos hb]
      by_cases h16 : out.length > 16
      · rw [if_pos (by omega), if_pos h16]
      · rw [if_neg (by omega), if_neg h16]
    · rw [if_neg hb, if_neg hb]
  | succ d ih =>
    intro i out bad h0 h1 hd ho
    have hi : i.toNat < ps.length := by omega
    have e1 : (i + 1).toNat = i.toNat + 1 := by omega
    have hrd : rdOf ByteArray.empty (ps.map strOfNums) i = strOfNums ps[i.toNat] := by simp [rdOf, hi]
    have hpB := hp ps[i.toNat] (List.getElem_mem hi)
    have hpz := hz ps[i.toNat] (List.getElem_mem hi)
    rw [List.drop_eq_getElem_cons hi, specsR]
    generalize ps[i.toNat] = p at hrd hpB hpz
    have hn := ih (i + 1) (out ++ [mkS (oneOf p)]) (worseS bad (oneOf p).2.2.2) (by omega) (by omega) (by omega) (by simp; omega)
    rw [e1] at hn
    refine Ev.succ ?_
    simp only [spec_Parse.l0, List.length_map, show i < (ps.length : Int) by omega, h0, if_true, hrd]
    refine Ev.bind (one_ev p hpB hpz) ?_
    refine Ev.bind (worse_ev _ _) ?_
    refine Ev.congr (fun k => ?_) hn
    rw [if_pos (by omega), wrap_id (by omega)]; rfl
theorem unit5 : (strOfNums ((bytesOf (⟨#[98, 121, 116, 101, 115]⟩ : ByteArray)).map lowI)) = strOfNums [98, 121, 116, 101, 115] := by decide
theorem low_isB5 {l : List Int} (h : ∀ b ∈ l, isB b) : ∀ b ∈ l.map lowI, isB b := by
  intro b hb; obtain ⟨x, hx, rfl⟩ := List.mem_map.1 hb; exact lowI_isB x (h x hx)
theorem facts5 (l : List Int) (h : ∀ b ∈ l, isB b) (hl : l.length ≤ 10000) :
    (∀ b ∈ trim l, isB b) ∧ (trim l).length ≤ 10000 ∧ ((cutOf 61 (trim l)).1.length ≤ 10000 ∧ (cutOf 61 (trim l)).2.1.length ≤ 10000) ∧ (∀ b ∈ (cutOf 61 (trim l)).1, isB b) ∧ (∀ b ∈ (cutOf 61 (trim l)).2.1, isB b) := by
  have ht : ∀ b ∈ trim l, isB b := fun b hb => h b (trim_mem hb)
  have hz := trim_len l
  have f := cut_facts5 61 (trim l) ht
  exact ⟨ht, by omega, ⟨by omega, by omega⟩, f.2.2.1, f.2.2.2⟩
theorem spec_parse_ev (s : ByteArray) (hs : s.size ≤ 10000) : Ev (fun k => spec_Parse.f k s) (specsOf (bytesOf s)) := by
  obtain ⟨f1, f2, ⟨f3, f4⟩, f5, f6⟩ := facts5 (bytesOf s) (bytesOf_isB s) (by rw [bytesOf_length]; exact hs)
  have q := cut_eq (strOfNums (trim (bytesOf s))) 61 (by unfold isB; omega) (by rw [size_str]; omega)
  rw [bytesOf_str _ f1] at q
  refine Ev.bind (trim_ev s (by omega)) ?_
  unfold specsOf
  simp only [q, Option.bind_some]
  generalize (cutOf 61 (trim (bytesOf s))).1 = c1 at f3 f5
  generalize (cutOf 61 (trim (bytesOf s))).2.1 = c2 at f4 f6
  generalize (cutOf 61 (trim (bytesOf s))).2.2 = c3
  have h1 := list_ev (strOfNums c2) (by rw [size_str]; omega)
  rw [size_str, bytesOf_str _ f6, lists_lists2 _ _ _ (by omega)] at h1
  refine Ev.bind h1 ?_
  have hB := piecesOf_isB c2 [] f6 (by simp)
  have hZ := piecesOf_size c2 []
  have hL := piecesOf_len c2 []
  simp only [List.length_nil] at hZ
  have no : ∀ l, Ev (fun k => spec_Parse.j0 k l true) (([] : List SpecS), (3 : Int)) := fun l => Ev.pos fun k => by simp only [spec_Parse.j0, if_true]
  cases c3
  · simp only [Bool.false_eq_true, if_false]; exact no _
  simp only [if_true]
  have hf := fold_eq (strOfNums c1) (⟨#[98, 121, 116, 101, 115]⟩ : ByteArray) (by rw [size_str]; omega) (by decide)
  rw [bytesOf_str _ f5, unit5, toList_beq, bytesOf_str _ (low_isB5 f5), bytesOf_str _ (by simp [isB])] at hf
  rw [hf]
  simp only [Option.bind_some]
  by_cases hu : c1.map lowI = [98, 121, 116, 101, 115]
  · simp only [hu, decide_true, if_true]
    cases hx : lists2 true (piecesOf [] c2) with
    | none => simp only [listEnd, Bool.false_eq_true, if_false]; exact no _
    | some ts =>
      obtain ⟨g1, g2⟩ := lists2_facts _ _ _ hx
      simp only [listEnd, if_true, List.nil_append]
      cases ts with
      | nil => exact no _
      | cons t ts =>
        have hp : ∀ p ∈ t :: ts, ∀ b ∈ p, isB b := fun p hp b hb => by obtain ⟨q, hq, e⟩ := g2 p hp; rw [e] at hb; exact hB q hq b (trim_mem hb)
        have hz : ∀ p ∈ t :: ts, p.length ≤ 10000 := fun p hp => by obtain ⟨q, hq, e⟩ := g2 p hp; have := hZ q hq; have := trim_len q; rw [e]; omega
        have := sparse_loop (t :: ts) hp hz (by omega) (t :: ts).length 0 [] 0 (by omega) (by omega) (by omega) rfl
        rw [Int.toNat_zero, List.drop_zero] at this
        refine Ev.step (fun k => ?_) this
        simp only [spec_Parse.j0, List.length_map]
        rw [if_neg (by simp; omega)]
  · simp only [hu, decide_false, Bool.false_eq_true, if_false]; exact no _
theorem same_loop5 (l : List SpecS) (hl : l.length ≤ 100000) (d : Nat) : ∀ i : Int, 0 ≤ i → i ≤ l.length → (l.length : Int) - i = d → Ev (fun k => spencelaw05_same.l0 k l l l.length i) true := by
  induction d with
  | zero => intro i h0 h1 hd; exact Ev.pos (fun k => by simp only [spencelaw05_same.l0]; rw [if_neg (by omega)])
  | succ d ih =>
    intro i h0 h1 hd
    refine Ev.step (fun k => ?_) (ih (i + 1) (by omega) (by omega) (by omega))
    simp only [spencelaw05_same.l0, beq_self_eq_true, Bool.not_true, Bool.or_self, Bool.false_eq_true, if_false]
    rw [if_pos (by omega), if_pos h0, if_pos (by omega), if_pos (by omega), wrap_id (by omega)]
theorem same_ev5 (l : List SpecS) (hl : l.length ≤ 100000) : Ev (fun k => spencelaw05_same.f k l l) true := by
  unfold spencelaw05_same.f
  simp only [if_true]
  exact same_loop5 l hl l.length 0 (by omega) (by omega) (by omega)
theorem awake05 : Ev (fun k => spencelaw05_awake.f k) true := by
  refine Ev.bind (spec_parse_ev _ (by decide)) ?_
  have e : specsOf (bytesOf (⟨#[98, 121, 116, 101, 115, 61, 48, 45, 52, 44, 32, 45, 53]⟩ : ByteArray)) = ([⟨2, 0, 4⟩, ⟨3, 5, 0⟩], 0) := by kernel_rfl
  rw [e]
  exact Ev.now _
end Go.Proofs.YtndghocppadimaaDoor.Pure
namespace Go.Proofs.YtndghocppadimaaDoor.Pure
open Go.RowKit Go.Proofs.YtndghocppadimaaDoor.Xw Go.Proofs.YtndghocppadimaaDoor.PAll Go.Proofs.YtndghocppadimaaDoorW.PrintWords Go.Proofs.YtndghocppadimaaDoorW.PrintLast Go.Proofs.YtndghocppadimaaDoorW.PrintMore
def InR (x : Int) : Prop := -9223372036854775808 ≤ x ∧ x ≤ 9223372036854775807
def shownI (x : SpecS) : List Int := if x.f0 = 1 then ptext x.f1 ++ [45] else if x.f0 = 2 then ptext x.f1 ++ [45] ++ ptext x.f2 else if x.f0 = 3 then [45] ++ ptext x.f1 else [63]
def specT (l : List SpecS) : List Int := [98, 121, 116, 101, 115, 61] ++ joinI [44] (l.map shownI)
theorem ptext_len21 (n : Int) (h : InR n) : (ptext n).length ≤ 21 := by
  unfold InR at h
  unfold ptext
  split
  · have := dig_len n.natAbs (by omega); simp; omega
  · have := dig_len n.toNat (by omega); omega
theorem shownI_len (x : SpecS) (h1 : InR x.f1) (h2 : InR x.f2) : (shownI x).length ≤ 43 := by
  have := ptext_len21 _ h1
  have := ptext_len21 _ h2
  unfold shownI
  split
  · simp; omega
  · split
    · simp; omega
    · split
      · simp; omega
      · simp
theorem shownI_isB (x : SpecS) : ∀ b ∈ shownI x, isB b := by
  intro b hb
  have p1 := ptext_isB x.f1
  have p2 := ptext_isB x.f2
  have d : isB 45 := by unfold isB; omega
  have q : isB 63 := by unfold isB; omega
  unfold shownI at hb
  split at hb
  · rcases List.mem_append.1 hb with h | h
    · exact p1 b h
    · rw [List.mem_singleton.1 h]; exact d
  · split at hb
    · rcases List.mem_append.1 hb with h | h
      · rcases List.mem_append.1 h with h | h
        · exact p1 b h
        · rw [List.mem_singleton.1 h]; exact d
      · exact p2 b h
    · split at hb
      · rcases List.mem_append.1 hb with h | h
        · rw [List.mem_singleton.1 h]; exact d
        · exact p1 b h
      · rw [List.mem_singleton.1 hb]; exact q
theorem dash5 : (⟨#[45]⟩ : ByteArray) = strOfNums [45] := by decide
theorem what5 : (⟨#[63]⟩ : ByteArray) = strOfNums [63] := by decide
theorem head5 : (⟨#[98, 121, 116, 101, 115, 61]⟩ : ByteArray) = strOfNums [98, 121, 116, 101, 115, 61] := by decide
theorem shown_ev (x : SpecS) (h1 : InR x.f1) (h2 : InR x.f2) : Ev (fun k => spec_shown.f k x.f0 x.f1 x.f2) (strOfNums (shownI x)) := by
  have l1 := ptext_len21 _ h1
  have l2 := ptext_len21 _ h2
  unfold spec_shown.f shownI
  by_cases c1 : x.f0 = 1
  · simp only [c1, if_true]
    refine Ev.bind (print_ev _ h1) (Ev.all fun k => ?_)
    rw [size_str, if_pos (by omega), dash5, str_append]
  simp only [c1, if_false]
  by_cases c2 : x.f0 = 2
  · simp only [c2, if_true]
    refine Ev.bind (print_ev _ h1) ?_
    refine Ev.congr (fun k => if_pos (by rw [size_str]; omega)) ?_
    refine Ev.bind (print_ev _ h2) (Ev.all fun k => ?_)
    rw [size_str, size_str, if_pos (by omega), dash5, str_append, str_append]
  simp only [c2, if_false]
  by_cases c3 : x.f0 = 3
  · simp only [c3, if_true]
    refine Ev.bind (print_ev _ h1) (Ev.all fun k => ?_)
    rw [size_str, if_pos (by omega), dash5, str_append]
  simp only [c3, if_false]
  exact Ev.all fun k => by rw [what5]
theorem join_isB5 : ∀ l : List SpecS, ∀ b ∈ joinI [44] (l.map shownI), isB b
  | [], b, hb => by simp [joinI] at hb
  | [x], b, hb => by simp [joinI] at hb; exact shownI_isB x b hb
  | x :: y :: r, b, hb => by
    have e : joinI [44] ((x :: y :: r).map shownI) = shownI x ++ [44] ++ joinI [44] ((y :: r).map shownI) := by simp [joinI]
    rw [e] at hb
    rcases List.mem_append.1 hb with h | h
    · rcases List.mem_append.1 h with h | h
      · exact shownI_isB x b h
      · simp at h; unfold isB; omega
    · exact join_isB5 (y :: r) b h
theorem specT_isB (l : List SpecS) : ∀ b ∈ specT l, isB b := by
  intro b hb
  unfold specT at hb
  rcases List.mem_append.1 hb with h | h
  · simp at h; unfold isB; omega
  · exact join_isB5 l b h
theorem join_len5 : ∀ l : List SpecS, (∀ x ∈ l, InR x.f1 ∧ InR x.f2) → (joinI [44] (l.map shownI)).length ≤ 44 * l.length
  | [], _ => by simp [joinI]
  | [x], h => by have := shownI_len x (h x List.mem_cons_self).1 (h x List.mem_cons_self).2; simp [joinI]; omega
  | x :: y :: r, h => by
    have e : joinI [44] ((x :: y :: r).map shownI) = shownI x ++ [44] ++ joinI [44] ((y :: r).map shownI) := by simp [joinI]
    have ih := join_len5 (y :: r) (fun z hz => h z (List.mem_cons_of_mem _ hz))
    have := shownI_len x (h x List.mem_cons_self).1 (h x List.mem_cons_self).2
    rw [e, List.length_append, List.length_append]
    simp only [List.length_cons, List.length_nil] at *
    omega
theorem specT_len (l : List SpecS) (h : ∀ x ∈ l, InR x.f1 ∧ InR x.f2) : (specT l).length ≤ 6 + 44 * l.length := by
  have := join_len5 l h
  unfold specT
  simp only [List.length_append, List.length_cons, List.length_nil] at *
  omega
theorem sep5 : bytesOf (⟨#[44]⟩ : ByteArray) = [44] := rfl
theorem rd5 (l : List SpecS) (i : Int) (hi : i.toNat < l.length) : rd_T33 l i = l[i.toNat] := by
  unfold rd_T33
  rw [List.getD_eq_getElem?_getD, List.getElem?_eq_getElem hi]; rfl
theorem sprint_loop (l : List SpecS) (hw : ∀ x ∈ l, InR x.f1 ∧ InR x.f2) (hn : l.length ≤ 100) (d : Nat) : ∀ i : Int, 0 ≤ i → i ≤ l.length → (l.length : Int) - i = d →
    Ev (fun k => spec_Print.l0 k ((l.take i.toNat).map fun x => strOfNums (shownI x)) l l.length i) (strOfNums (specT l)) := by
  induction d with
  | zero =>
    intro i h0 h1 hd
    refine Ev.pos (fun k => ?_)
    simp only [spec_Print.l0]
    rw [if_neg (by omega), List.take_of_length_le (by omega)]
    unfold strings_Join.f
    have e : (l.map fun x => strOfNums (shownI x)).map bytesOf = l.map shownI := by
      rw [List.map_map]
      apply List.map_congr_left
      intro x _
      exact bytesOf_str _ (shownI_isB x)
    have hj := join_len5 l hw
    rw [List.length_map, e, sep5, if_pos (by omega), if_pos (by omega), Option.bind_some, size_str, if_pos (by omega), head5, str_append]; rfl
  | succ d ih =>
    intro i h0 h1 hd
    have hi : i.toNat < l.length := by omega
    have e1 : (i + 1).toNat = i.toNat + 1 := by omega
    have hrd := rd5 l i hi
    have hz := hw l[i.toNat] (List.getElem_mem hi)
    have hnx := ih (i + 1) (by omega) (by omega) (by omega)
    rw [e1, List.take_succ_eq_append_getElem hi, List.map_append, List.map_cons, List.map_nil] at hnx
    generalize l[i.toNat] = x at hrd hz hnx
    refine Ev.succ ?_
    simp only [spec_Print.l0, show i < (l.length : Int) by omega, h0, if_true, hrd]
    refine Ev.bind (shown_ev x hz.1 hz.2) ?_
    refine Ev.congr (fun k => ?_) hnx
    rw [if_pos (by rw [List.length_map, List.length_take]; omega), wrap_id (by omega)]
theorem sprint_ev (l : List SpecS) (hw : ∀ x ∈ l, InR x.f1 ∧ InR x.f2) (hn : l.length ≤ 100) : Ev (fun k => spec_Print.f k l) (strOfNums (specT l)) := by
  have := sprint_loop l hw hn l.length 0 (by omega) (by omega) (by omega)
  rwa [Int.toNat_zero, List.take_zero, List.map_nil] at this
def rightP (a b c : Int) : Bool := decide ((a = 2 ∧ 0 ≤ b ∧ b ≤ c ∧ c ≤ 4611686018427387903) ∨ ((a = 1 ∨ a = 3) ∧ 0 ≤ b ∧ b ≤ 4611686018427387903 ∧ c = 0))
theorem ref_right_spec (a b c : Int) : Ev (fun k => spenceref04_RightSpec.f k a b c) (rightP a b c) := by
  refine Ev.pos (fun k => ?_)
  unfold spenceref04_RightSpec.f
  simp only [spenceref04_RightSpec.j0, if_true]
  unfold rightP
  by_cases h1 : b < 0
  · rw [if_pos h1]; congr 1; symm; rw [decide_eq_false_iff_not]; omega
  rw [if_neg h1]
  by_cases h2 : b > 4611686018427387903
  · rw [if_pos h2]; congr 1; symm; rw [decide_eq_false_iff_not]; omega
  rw [if_neg h2]
  by_cases h3 : c > 4611686018427387903
  · rw [decide_eq_true h3, if_pos rfl]; congr 1; symm; rw [decide_eq_false_iff_not]; omega
  rw [decide_eq_false h3, if_neg (by decide)]
  by_cases k2 : a = 2
  · rw [if_pos k2]; congr 1; rw [decide_eq_decide]; omega
  rw [if_neg k2]
  by_cases k1 : a = 1
  · rw [if_pos k1]; congr 1; show decide (c = 0) = _; rw [decide_eq_decide]; omega
  rw [if_neg k1]
  by_cases k3 : a = 3
  · rw [if_pos k3]; congr 1; show decide (c = 0) = _; rw [decide_eq_decide]; omega
  rw [if_neg k3]; congr 1; symm; rw [decide_eq_false_iff_not]; omega
end Go.Proofs.YtndghocppadimaaDoor.Pure
namespace Go.Proofs.YtndghocppadimaaDoor.Pure
open Go.RowKit Go.Proofs.YtndghocppadimaaDoor.Xw Go.Proofs.YtndghocppadimaaDoor.PAll Go.Proofs.YtndghocppadimaaDoorW.PrintWords Go.Proofs.YtndghocppadimaaDoorW.PrintLast Go.Proofs.YtndghocppadimaaDoorW.PrintMore
theorem parse_dig5 (n : Int) (h0 : 0 ≤ n) (h : n ≤ 4611686018427387903) : parse (ptext n) = (n, 0) := by
  have hd := dig_all n.toNat
  unfold ptext
  rw [if_neg (by omega)]
  unfold parse maxN
  rw [if_neg (by rintro (g | g); exact hd.2.1 g; rw [hd.1] at g; cases g), hd.2.2, if_neg (by omega)]
  congr 1; omega
theorem ptext_dig5 (n : Int) (h0 : 0 ≤ n) : (ptext n).all isDig = true ∧ ptext n ≠ [] ∧ fval 0 (ptext n) = n := by
  have hd := dig_all n.toNat
  unfold ptext
  rw [if_neg (by omega)]
  exact ⟨hd.1, hd.2.1, by rw [hd.2.2]; omega⟩
theorem no45 (n : Int) (h0 : 0 ≤ n) : (45 : Int) ∉ ptext n := by
  intro h
  have := List.all_eq_true.1 (ptext_dig5 n h0).1 _ h
  exact absurd this (by decide)
theorem rightP_kinds (x : SpecS) (h : rightP x.f0 x.f1 x.f2 = true) : (x.f0 = 2 ∧ 0 ≤ x.f1 ∧ x.f1 ≤ x.f2 ∧ x.f2 ≤ 4611686018427387903) ∨ ((x.f0 = 1 ∨ x.f0 = 3) ∧ 0 ≤ x.f1 ∧ x.f1 ≤ 4611686018427387903 ∧ x.f2 = 0) := of_decide_eq_true h
theorem one_shown (x : SpecS) (h : rightP x.f0 x.f1 x.f2 = true) : oneOf (shownI x) = (x.f0, x.f1, x.f2, 0) := by
  rcases rightP_kinds x h with ⟨h0, h1, h2, h3⟩ | ⟨h0 | h0, h1, h2, h3⟩
  · have e : shownI x = ptext x.f1 ++ 45 :: ptext x.f2 := by
      unfold shownI; rw [if_neg (by omega), if_pos h0]; simp
    have hd := ptext_dig5 x.f1 h1
    have hd2 := ptext_dig5 x.f2 (by omega)
    rw [e]
    unfold oneOf
    rw [cutOf_mk 45 _ _ (no45 _ h1)]
    simp only [if_true]
    rw [if_neg hd.2.1, if_neg hd2.2.1]
    unfold bothV
    rw [parse_dig5 _ h1 (by omega), parse_dig5 _ (by omega) h3, less_fval _ _ hd2.1 hd.1, hd.2.2, hd2.2.2]
    have : ¬ x.f2 < x.f1 := by omega
    simp [this, h0]
  · have e : shownI x = ptext x.f1 ++ 45 :: [] := by
      unfold shownI; rw [if_pos h0]
    have hd := ptext_dig5 x.f1 h1
    rw [e]
    unfold oneOf
    rw [cutOf_mk 45 _ _ (no45 _ h1)]
    simp only [if_true]
    rw [if_neg hd.2.1]
    unfold singleV
    rw [parse_dig5 _ h1 h2, if_pos rfl, h0, h3]
  · have e : shownI x = [] ++ 45 :: ptext x.f1 := by
      unfold shownI; rw [if_neg (by omega), if_neg (by omega), if_pos h0]; rfl
    rw [e]
    unfold oneOf
    rw [cutOf_mk 45 _ _ (by simp)]
    simp only [if_true]
    unfold singleV
    rw [parse_dig5 _ h1 h2, if_pos rfl, h0, h3]
theorem dig_plain (b : Int) (h : isDig b = true) : isBl b = false ∧ b ≠ 44 := by
  rw [isDig_iff] at h
  refine ⟨?_, by omega⟩
  unfold isBl
  rw [Bool.or_eq_false_iff, beq_eq_false_iff_ne, beq_eq_false_iff_ne]
  omega
theorem shown_plain (x : SpecS) (h : rightP x.f0 x.f1 x.f2 = true) : shownI x ≠ [] ∧ ∀ b ∈ shownI x, isBl b = false ∧ b ≠ 44 := by
  have d : isBl 45 = false ∧ (45 : Int) ≠ 44 := by decide
  have pt : ∀ n : Int, 0 ≤ n → ∀ b ∈ ptext n, isBl b = false ∧ b ≠ 44 := fun n hn b hb => dig_plain b (List.all_eq_true.1 (ptext_dig5 n hn).1 _ hb)
  rcases rightP_kinds x h with ⟨h0, h1, h2, h3⟩ | ⟨h0 | h0, h1, h2, h3⟩
  · have e : shownI x = ptext x.f1 ++ [45] ++ ptext x.f2 := by
      unfold shownI; rw [if_neg (by omega), if_pos h0]
    rw [e]
    refine ⟨by simp, fun b hb => ?_⟩
    rcases List.mem_append.1 hb with g | g
    · rcases List.mem_append.1 g with g | g
      · exact pt _ h1 b g
      · rw [List.mem_singleton.1 g]; exact d
    · exact pt _ (by omega) b g
  · have e : shownI x = ptext x.f1 ++ [45] := by
      unfold shownI; rw [if_pos h0]
    rw [e]
    refine ⟨by simp, fun b hb => ?_⟩
    rcases List.mem_append.1 hb with g | g
    · exact pt _ h1 b g
    · rw [List.mem_singleton.1 g]; exact d
  · have e : shownI x = [45] ++ ptext x.f1 := by
      unfold shownI; rw [if_neg (by omega), if_neg (by omega), if_pos h0]
    rw [e]
    refine ⟨by simp, fun b hb => ?_⟩
    rcases List.mem_append.1 hb with g | g
    · rw [List.mem_singleton.1 g]; exact d
    · exact pt _ h1 b g
theorem drop_id (p : List Int) (h : ∀ b ∈ p, isBl b = false) : p.dropWhile isBl = p := by
  cases p with
  | nil => rfl
  | cons b r => rw [List.dropWhile_cons, if_neg (by rw [h b List.mem_cons_self]; decide)]
theorem trim_id (p : List Int) (h : ∀ b ∈ p, isBl b = false) : trim p = p := by
  unfold trim ltrim rtrim
  rw [drop_id p.reverse (fun b hb => h b (List.mem_reverse.1 hb)), List.reverse_reverse, drop_id p h]
theorem pieces_run (rest : List Int) : ∀ (m cur : List Int), (∀ b ∈ m, b ≠ 44) → piecesOf cur (m ++ rest) = piecesOf (cur ++ m) rest
  | [], cur, _ => by simp
  | b :: m, cur, h => by
    rw [List.cons_append, piecesOf, if_neg (h b List.mem_cons_self), pieces_run rest m _ (fun x hx => h x (List.mem_cons_of_mem _ hx))]
    simp
theorem pieces_join : ∀ (ps : List (List Int)) (p cur : List Int), (∀ q ∈ p :: ps, ∀ b ∈ q, b ≠ 44) → piecesOf cur (joinI [44] (p :: ps)) = (cur ++ p) :: ps
  | [], p, cur, h => by
    have := pieces_run [] p cur (h p List.mem_cons_self)
    rw [List.append_nil] at this
    rw [show joinI [44] [p] = p from rfl, this]; rfl
  | q :: ps, p, cur, h => by
    have e : joinI [44] (p :: q :: ps) = p ++ (44 :: joinI [44] (q :: ps)) := by simp [joinI]
    rw [e, pieces_run _ p cur (h p List.mem_cons_self), piecesOf, if_pos rfl, pieces_join ps q [] (fun x hx => h x (List.mem_cons_of_mem _ hx))]; rfl
theorem lists2_id : ∀ (ps : List (List Int)) (first : Bool), (∀ p ∈ ps, p ≠ [] ∧ ∀ b ∈ p, isBl b = false) → lists2 first ps = some ps
  | [], _, _ => rfl
  | p :: r, first, h => by
    obtain ⟨h1, h2⟩ := h p List.mem_cons_self
    have hl : 0 < p.length := List.length_pos_iff.2 h1
    have e1 : isBl (rd p 0) = false := by rw [rd_eq _ _ (by omega) (by omega)]; exact h2 _ (List.getElem_mem _)
    have e2 : isBl (rd p ((p.length : Int) - 1)) = false := by rw [rd_eq _ _ (by omega) (by omega)]; exact h2 _ (List.getElem_mem _)
    rw [lists2_cons, trim_id p h2, if_neg h1, if_neg (fun g => by rw [e1] at g; cases g.2), if_neg (fun g => by rw [e2] at g; cases g.2), lists2_id r false (fun q hq => h q (List.mem_cons_of_mem _ hq))]
    rfl
theorem specsR_back : ∀ (l out : List SpecS), (∀ x ∈ l, rightP x.f0 x.f1 x.f2 = true) → specsR out 0 (l.map shownI) = if (out ++ l).length > 16 then ([], 10) else (out ++ l, 0)
  | [], out, _ => by rw [List.map_nil, specsR, if_pos rfl, List.append_nil]
  | x :: l, out, h => by
    have hx := one_shown x (h x List.mem_cons_self)
    have ih := specsR_back l (out ++ [x]) (fun y hy => h y (List.mem_cons_of_mem _ hy))
    rw [List.map_cons, specsR, hx]
    have e : mkS (x.f0, x.f1, x.f2, 0) = x := rfl
    have e2 : worseS 0 (x.f0, x.f1, x.f2, (0 : Int)).2.2.2 = 0 := by simp [worseS]
    rw [e, e2, ih, List.append_assoc]; rfl
theorem spec_back (t : SpecS) (ts : List SpecS) (h : ∀ x ∈ t :: ts, rightP x.f0 x.f1 x.f2 = true) : specsOf (specT (t :: ts)) = if (t :: ts).length > 16 then ([], 10) else (t :: ts, 0) := by
  have hp : ∀ p ∈ (t :: ts).map shownI, p ≠ [] ∧ ∀ b ∈ p, isBl b = false ∧ b ≠ 44 := fun p hp => by
    obtain ⟨x, hx, rfl⟩ := List.mem_map.1 hp; exact shown_plain x (h x hx)
  have hj : ∀ (ps : List (List Int)), (∀ p ∈ ps, p ≠ [] ∧ ∀ b ∈ p, isBl b = false ∧ b ≠ 44) → ∀ b ∈ joinI [44] ps, isBl b = false := by
    intro ps
    induction ps with
    | nil => intro _ b hb; simp [joinI] at hb
    | cons p r ih =>
      intro hps b hb
      cases r with
      | nil => exact ((hps p List.mem_cons_self).2 b (by simpa [joinI] using hb)).1
      | cons q r =>
        have e : joinI [44] (p :: q :: r) = p ++ [44] ++ joinI [44] (q :: r) := by simp [joinI]
        rw [e] at hb
        rcases List.mem_append.1 hb with g | g
        · rcases List.mem_append.1 g with g | g
          · exact ((hps p List.mem_cons_self).2 b g).1
          · rw [List.mem_singleton.1 g]; decide
        · exact ih (fun x hx => hps x (List.mem_cons_of_mem _ hx)) b g
  have ht : trim (specT (t :: ts)) = specT (t :: ts) := by
    refine trim_id _ fun b hb => ?_
    unfold specT at hb
    rcases List.mem_append.1 hb with g | g
    · simp at g; rcases g with g | g | g | g | g | g <;> (subst g; decide)
    · exact hj _ hp b g
  have hc : cutOf 61 (specT (t :: ts)) = ([98, 121, 116, 101, 115], joinI [44] ((t :: ts).map shownI), true) := by
    have e : specT (t :: ts) = [98, 121, 116, 101, 115] ++ 61 :: joinI [44] ((t :: ts).map shownI) := rfl
    rw [e, cutOf_mk 61 _ _ (by decide)]
  unfold specsOf
  rw [ht, hc]
  simp only [if_true]
  rw [if_pos (by decide), List.map_cons, pieces_join _ _ _ (fun q hq b hb => ((hp q hq).2 b hb).2), List.nil_append, ← List.map_cons, lists2_id _ _ (fun p hq => ⟨(hp p hq).1, fun b hb => ((hp p hq).2 b hb).1⟩)]
  have := specsR_back (t :: ts) [] h
  rw [List.nil_append] at this
  exact this
theorem back_end5 (l : List SpecS) (hw : ∀ x ∈ l, InR x.f1 ∧ InR x.f2) (h0 : 0 < l.length) (hn : l.length ≤ 40) (hr : ∀ x ∈ l, rightP x.f0 x.f1 x.f2 = true) :
    Ev (fun k => (spec_Print.f k l).bind fun t => (spec_Parse.f k t).bind fun p => if (l.length : Int) > 16 then (if p.2 = 10 then some ((p.1.length : Int) == 0) else some false) else (if p.2 = 0 then ((spencelaw05_same.f k p.1 l).bind fun t => some t) else some false)) true := by
  have hl := specT_len l hw
  refine Ev.bind (sprint_ev l hw (by omega)) ?_
  have hp := spec_parse_ev (strOfNums (specT l)) (by rw [size_str]; omega)
  rw [bytesOf_str _ (specT_isB l)] at hp
  refine Ev.bind hp ?_
  cases l with
  | nil => simp at h0
  | cons t ts =>
    rw [spec_back t ts hr]
    by_cases h16 : (t :: ts).length > 16
    · have h16' : ((t :: ts).length : Int) > 16 := by omega
      simp only [h16', h16, if_true]
      exact Ev.now _
    · have h16' : ¬ ((t :: ts).length : Int) > 16 := by omega
      simp only [h16', h16, if_false, if_true]
      exact Ev.bind (same_ev5 _ (by omega)) (Ev.now _)
theorem back_loop5 (l : List SpecS) (hw : ∀ x ∈ l, InR x.f1 ∧ InR x.f2) (h0 : 0 < l.length) (hn : l.length ≤ 40) (d : Nat) : ∀ i : Int, 0 ≤ i → i ≤ l.length → (l.length : Int) - i = d → (∀ x ∈ l.take i.toNat, rightP x.f0 x.f1 x.f2 = true) →
    Ev (fun k => spencelaw05_SpecBack.l0 k l l l.length i) true := by
  induction d with
  | zero =>
    intro i g0 g1 hd hr
    rw [List.take_of_length_le (by omega)] at hr
    refine Ev.step (fun k => ?_) (back_end5 l hw h0 hn hr)
    simp only [spencelaw05_SpecBack.l0]
    rw [if_neg (by omega)]
  | succ d ih =>
    intro i g0 g1 hd hr
    have hi : i.toNat < l.length := by omega
    have e1 : (i + 1).toNat = i.toNat + 1 := by omega
    have hrd := rd5 l i hi
    have hnx := ih (i + 1) (by omega) (by omega) (by omega)
    rw [e1, List.take_succ_eq_append_getElem hi] at hnx
    generalize l[i.toNat] = x at hrd hnx
    refine Ev.succ ?_
    simp only [spencelaw05_SpecBack.l0, show i < (l.length : Int) by omega, g0, if_true, hrd]
    refine Ev.bind (ref_right_spec _ _ _) ?_
    by_cases hx : rightP x.f0 x.f1 x.f2 = true
    · simp only [hx, if_true]
      rw [wrap_id (by omega)]
      refine hnx fun y hy => ?_
      rcases List.mem_append.1 hy with h | h
      · exact hr y h
      · rw [List.mem_singleton.1 h]; exact hx
    · simp only [hx]; exact Ev.now _
theorem SpecBack : spencelaw05_SpecBack.Pure := by
  intro l _ hl
  have hw : ∀ x ∈ l, InR x.f1 ∧ InR x.f2 := fun x hx => ⟨wf_bd (hl x hx).2.1, wf_bd (hl x hx).2.2⟩
  refine Ev.rounds (g := fun k => spencelaw05_SpecBack.f k l) ?_
  refine Ev.bind awake05 ?_
  simp only [if_true]
  have yes : Ev (fun k => spencelaw05_SpecBack.j0 k l true) true := Ev.pos fun k => by simp only [spencelaw05_SpecBack.j0, if_true]
  by_cases c0 : (l.length : Int) = 0
  · simp only [c0, if_true]; exact yes
  simp only [c0, if_false]
  by_cases c1 : (l.length : Int) > 40
  · simp only [c1, decide_true]; exact yes
  simp only [c1, decide_false]
  have := back_loop5 l hw (by omega) (by omega) l.length 0 (by omega) (by omega) (by omega) (by simp)
  refine Ev.step (fun k => ?_) this
  simp only [spencelaw05_SpecBack.j0, Bool.false_eq_true, if_false]
end Go.Proofs.YtndghocppadimaaDoor.Pure
namespace Go.Proofs.YtndghocppadimaaDoor.specBack
open Go.ChangeShapes Go.WideShapes Go.ChangeAt Go.RowKit Go.Proofs.YtndghocppadimaaDoor.Rd Go.Proofs.YtndghocppadimaaDoor.PAll Go.Proofs.YtndghocppadimaaDoorW.PrintWords
open Go.ChangeMaps (open_string shut_string)
set_option linter.unusedVariables false
theorem own : ownKnob Tryd.prog.godebug = none := by kernel_rfl
theorem laidOut : laidOutB Tryd.prog = true := by kernel_rfl
def ok33 (x : S33) : Prop := (Lit.int .i64 x.f0).wf = true ∧ (Lit.int .i64 x.f1).wf = true ∧ (Lit.int .i64 x.f2).wf = true
theorem o33 : Opens Tryd.prog 33 k33 ok33 := opens_struct Tryd.underlying33 (opensF_cons (opens_int Tryd.underlying3) rfl (by kernel_rfl) rfl (opensF_cons (opens_int Tryd.underlying3) rfl (by kernel_rfl) rfl (opensF_one (opens_int Tryd.underlying3) rfl (by kernel_rfl)))) (by kernel_rfl) (fun x : S33 => (x.f0, x.f1, x.f2)) (fun p => ⟨p.1, p.2.1, p.2.2⟩) (fun _ => rfl)
set_option maxRecDepth 100000 in
set_option maxHeartbeats 4000000 in
theorem lifted (os : Os) (started : os.Started) (H : Type) (enc : TypeId × Value → H) :
    ReturnsInHanded {} Tryd.checked os 4 .any (fun w args => (Rows.specBackSpec.pre enc Tryd.prog Tryd.f4 Rows.specBackRow.domain false w args ∧ laidMetH Tryd.prog Rows.specBackRow.laid w) ∧ sizedMet enc Tryd.prog Tryd.f4 (OpenSpec.ofChange Rows.specBackSpec) false w args) (Rows.specBackSpec.post enc Tryd.prog Tryd.f4 false true false false) := by
  refine returnsInHanded_of_change_and (C := Tryd.checked) (X := (fun w _ => laidMetH Tryd.prog Rows.specBackRow.laid w)) (fun _ _ _ hh h => h.of_heap hh) own started (by kernel_rfl) Tryd.func4
    (ChangeSpec.witness_shaped (enc := enc) (C := Tryd.checked) (os := os) (X := (fun w _ => laidMetH Tryd.prog Rows.specBackRow.laid w)) false (World.laidAll Tryd.prog os Rows.specBackRow.laid) #[.slice none 0 0] 8 (World.laidAll_os _ _ _)
      (World.shaped_of_ZipB (by kernel_rfl) (by kernel_rfl)) (by kernel_rfl) (by kernel_rfl) (by kernel_rfl)
      (by rw [MakeChecks.laidMetH_plain _ _ _ (by kernel_rfl)]; exact laidMet_laidAll _ (by kernel_rfl) (by kernel_rfl))) ?_
  intro W base args ds gs before hval0 hW hcnd hsz0 _ _
  have hsz : (DataW.weightsEach Tryd.prog (Tryd.f4.params.toList ++ Rows.specBackSpec.plain.varTypes Tryd.prog) (ds ++ gs)).all (· ≤ reachBytes) = true := hsz0
  have hval : ∀ (j : Nat) t v, Tryd.f4.params[j]? = some t → args[j]? = some v → Value.okWide Tryd.prog W .any base t v := hval0
  have hW' := hW
  obtain ⟨p, q, hA0, hV, rfl, hfz, hnd⟩ := hW
  have hA : DataW.TrodAll enc Tryd.prog W 0 (fun _ => true) true Tryd.f4.params.toList args.toList ds p := hA0
  rw [Tryd.params4] at hA hval hsz
  obtain ⟨v0, vs0, d0, ds0, p0, q0, hargs, rfl, rfl, h0, r0⟩ := trodAll_cons hA
  obtain ⟨rfl, rfl, rfl⟩ := trodAll_nil r0
  obtain rfl : args = #[v0] := by cases args; simp_all
  obtain ⟨rfl, rfl⟩ := trodVars_none hV
  have k0 := h0
  have lt0 : ∀ x ∈ p0, x.block < W.heap.size := by obtain ⟨m, hm⟩ := k0; exact DataW.trod_lt m _ _ _ hm
  obtain ⟨A0, c0, l0, rfl, hc0, hC0, hok0, hb0⟩ := Rd.open_row Tryd.underlying23 o33 (by kernel_rfl) (hval 0 23 v0 rfl rfl) h0 hsz (j := 0) rfl rfl (B := 24) (by kernel_rfl)
  clear hA0 hval0 hsz0 hsz
  obtain ⟨k, hk⟩ := Pure.SpecBack l0 hb0 hok0
  refine (PAll.spencelaw05_SpecBack.calls k _ _ l0 true W hC0 hc0 hk).mono fun e W' ⟨he, hd⟩ => ?_
  have bel : Below W.heap.size W W' := hd
  subst he
  exact ⟨_, rfl, _, _, _, [], _, [], hW', trodAll_mk1 (shut_bool Tryd.underlying4 _), (trodAll_cons_mk (Below.trod laidOut (by kernel_rfl) (of_decide_eq_true (by kernel_rfl)) k0 bel lt0) trodAll_mk0), rfl, bel.frame _, fun h => by cases h⟩
theorem over : Rows.specBackRow.holds Tryd.pinned (OpenSpec.ofChange Rows.specBackSpec) :=
  OpenClaim.holds_of_wide 4 Tryd.f4 rfl rfl rfl rfl rfl rfl rfl ⟨rfl, rfl, rfl, rfl, rfl⟩ rfl rfl rfl rfl rfl (by kernel_rfl) Tryd.func4 (by kernel_rfl)
    (of_decide_eq_true (by kernel_rfl)) (by unfold Func.isWrapper; first | (rw [if_pos (by decide +kernel)]; kernel_rfl) | (rw [if_neg (by decide +kernel)]; exact ⟨rfl, rfl⟩))
    (fun os started H enc _ => lifted os started H enc)
end Go.Proofs.YtndghocppadimaaDoor.specBack
namespace Go.Proofs.YtndghocppadimaaDoor
theorem specBack_row : Rows.SpecBackSaid := specBack.over
theorem specBackCard_holds : Rows.SpecBackCardSaid :=
  Claim7.holds_tied_plain_at .later [] [.data, .pinned] true (true, "4e3150b384d01644c5bede7423f0e901dc19b9dbc2b06a40fda422c2da5e56e4") false specBack_row (fun _ h => by cases h) (by kernel_rfl) (fun _ h => by cases h) specBack_row_tie rfl ⟨rfl, rfl⟩ (by kernel_rfl) rfl
    (fun f fn hf hfn => by
      obtain rfl : f = 4 := Option.some.inj ((show Tryd.prog.funcNamed "spence/spencelaw05.SpecBack" = some 4 by kernel_rfl).symm.trans hf) |>.symm
      obtain rfl : fn = Tryd.f4 := (Option.some.inj (Tryd.func4.symm.trans hfn)).symm
      exact ⟨by kernel_rfl, fun j t ht => by
        rw [Tryd.params4] at ht
        have hm : t ∈ [23] := by simpa using Array.mem_of_getElem? ht
        have hall : ([23].all fun u => !Tryd.prog.wantsStandIn u) = true := by kernel_rfl
        exact (show Tryd.prog.wantsStandIn t = false by simpa using List.all_eq_true.1 hall t hm)⟩)
    (by kernel_rfl)
#print axioms specBackCard_holds
end Go.Proofs.YtndghocppadimaaDoor
