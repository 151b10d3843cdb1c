/- Functions of the given program as plain Lean functions, each with its walk: printed by a program of this claim's own over the kit's print. Helper text. -/
import Derived.Test.YtfmepbpipknblaaPBux0
import Derived.Test.YtfmepbpipknblaaPBux10
import Derived.Test.YtfmepbpipknblaaPBux4
import Derived.Test.YtfmepbpipknblaaPBux7
import Derived.Test.YtfmepbpipknblaaPBux12
import Derived.Test.YtfmepbpipknblaaPBux9
import Derived.Test.YtfmepbpipknblaaBuCheck
import Derived.Test.YtfmepbpipknblaaBuFit
import Derived.Test.YtfmepbpipknblaaPxS
namespace Go.Proofs.Ytfmepbpipknblaa.PBu
open Go.RowKit Go.Proofs.YtfmepbpipknblaaW.PrintWords Go.Proofs.YtfmepbpipknblaaW.PrintLast Go.Proofs.YtfmepbpipknblaaW.PrintMore
open Go.Proofs.YtfmepbpipknblaaPxS
attribute [local go_sem] max2_int min2_int max_two min_two max_three min_three max_four min_four   -- for this text's walks alone
set_option linter.unusedVariables false
set_option linter.unusedSimpArgs false

attribute [local go_sem high] eqA40
/-! ### busbarlaw21_BudgetFits: function 4 -/
mutual
def busbarlaw21_BudgetFits.j0 : Nat → Int → Bool → Int → Int → Bool → Int → Int → List Int → List (S40) → Int → Int → Bool → Int → Int → List Int → List (S40) → Int → Int → Bool → Int → Int → List Int → List (S40) → Option (Bool)
 | 0, _, _, _, _, _, _, _, _, _, _, _, _, _, _, _, _, _, _, _, _, _, _, _ => none
 | k + 1, x1, x39, x211000, x211001, x211002, x211003, x211004, x211005, x211006, x224000, x224001, x224002, x224003, x224004, x224005, x224006, x236000, x236001, x236002, x236003, x236004, x236005, x236006 => if x39 = true then (some false) else (busbarlaw21_BudgetFits.l0 k x1 0 x211000 x211001 x211002 x211003 x211004 x211005 x211006 x224000 x224001 x224002 x224003 x224004 x224005 x224006 x236000 x236001 x236002 x236003 x236004 x236005 x236006)
def busbarlaw21_BudgetFits.l0 : Nat → Int → Int → Int → Int → Bool → Int → Int → List Int → List (S40) → Int → Int → Bool → Int → Int → List Int → List (S40) → Int → Int → Bool → Int → Int → List Int → List (S40) → Option (Bool)
 | 0, _, _, _, _, _, _, _, _, _, _, _, _, _, _, _, _, _, _, _, _, _, _, _ => none
 | k + 1, x1, x7, x211000, x211001, x211002, x211003, x211004, x211005, x211006, x224000, x224001, x224002, x224003, x224004, x224005, x224006, x236000, x236001, x236002, x236003, x236004, x236005, x236006 => if x7 < (x224006.length : Int) then (if 0 ≤ x7 then (if x7 < (x236006.length : Int) then (if (!(((rd_T40 x224006 x7).f0) == ((rd_T40 x236006 x7).f0)) || (!(((rd_T40 x224006 x7).f1) == ((rd_T40 x236006 x7).f1)) || (!(((rd_T40 x224006 x7).f2) == ((rd_T40 x236006 x7).f2)) || (!(((rd_T40 x224006 x7).f3) == ((rd_T40 x236006 x7).f3)))))) = true then (some false) else (busbarlaw21_BudgetFits.l0 k x1 (wrap64 (x7 + 1)) x211000 x211001 x211002 x211003 x211004 x211005 x211006 x224000 x224001 x224002 x224003 x224004 x224005 x224006 x236000 x236001 x236002 x236003 x236004 x236005 x236006)) else (none)) else (none)) else ((budget_Course_Clone.f x211000 x211001 x211002 x211003 x211004 x211005 x211006).bind fun bt239 => (if (bt239.2.2.2.2.2.2.length : Int) = (x211006.length : Int) then ((budget_Course_Check.f bt239.1 bt239.2.1 bt239.2.2.1 bt239.2.2.2.1 bt239.2.2.2.2.1 bt239.2.2.2.2.2.1 bt239.2.2.2.2.2.2 x1).bind fun t251 => ((budget_Course_Check.f x211000 x211001 x211002 x211003 x211004 x211005 x211006 x1).bind fun t252 => (busbarlaw21_BudgetFits.j2 k x1 (t251 != t252) x211000 x211001 x211002 x211003 x211004 x211005 x211006 x224000 x224001 x224002 x224003 x224004 x224005 x224006 bt239.1 bt239.2.1 bt239.2.2.1 bt239.2.2.2.1 bt239.2.2.2.2.1 bt239.2.2.2.2.2.1 bt239.2.2.2.2.2.2))) else (busbarlaw21_BudgetFits.j2 k x1 true x211000 x211001 x211002 x211003 x211004 x211005 x211006 x224000 x224001 x224002 x224003 x224004 x224005 x224006 bt239.1 bt239.2.1 bt239.2.2.1 bt239.2.2.2.1 bt239.2.2.2.2.1 bt239.2.2.2.2.2.1 bt239.2.2.2.2.2.2)))
def busbarlaw21_BudgetFits.j2 : Nat → Int → Bool → Int → Int → Bool → Int → Int → List Int → List (S40) → Int → Int → Bool → Int → Int → List Int → List (S40) → Int → Int → Bool → Int → Int → List Int → List (S40) → Option (Bool)
 | 0, _, _, _, _, _, _, _, _, _, _, _, _, _, _, _, _, _, _, _, _, _, _, _ => none
 | k + 1, x1, x75, x211000, x211001, x211002, x211003, x211004, x211005, x211006, x224000, x224001, x224002, x224003, x224004, x224005, x224006, x251000, x251001, x251002, x251003, x251004, x251005, x251006 => if x75 = true then (some false) else (if (x251006.length : Int) > 0 then (if 0 < (x251006.length : Int) then ((some (x251006.set (0 : Int).toNat (⟨Go.bits .xor .i64 ((rd_T40 x251006 0).f0) 1, (rd_T40 x251006 0).f1, (rd_T40 x251006 0).f2, (rd_T40 x251006 0).f3⟩ : S40) : List (S40))).bind fun y254 => (if 0 < (x211006.length : Int) then (if (((rd_T40 x211006 0).f0) == ((rd_T40 y254 0).f0) && (((rd_T40 x211006 0).f1) == ((rd_T40 y254 0).f1) && (((rd_T40 x211006 0).f2) == ((rd_T40 y254 0).f2) && (((rd_T40 x211006 0).f3) == ((rd_T40 y254 0).f3))))) = true then (some false) else (busbarlaw21_BudgetFits.j3 k x1 x211000 x211001 x211002 x211003 x211004 x211005 x211006 x224000 x224001 x224002 x224003 x224004 x224005 x224006)) else (none))) else (none)) else (busbarlaw21_BudgetFits.j3 k x1 x211000 x211001 x211002 x211003 x211004 x211005 x211006 x224000 x224001 x224002 x224003 x224004 x224005 x224006))
def busbarlaw21_BudgetFits.j3 : Nat → Int → Int → Int → Bool → Int → Int → List Int → List (S40) → Int → Int → Bool → Int → Int → List Int → List (S40) → Option (Bool)
 | 0, _, _, _, _, _, _, _, _, _, _, _, _, _, _, _ => none
 | k + 1, x1, x211000, x211001, x211002, x211003, x211004, x211005, x211006, x224000, x224001, x224002, x224003, x224004, x224005, x224006 => (budget_Course_Check.f x211000 x211001 x211002 x211003 x211004 x211005 x211006 x1).bind fun t257 => (if t257 = 0 then (if (x224006.length : Int) = (x211006.length : Int) then ((busbarlaw21_one.f k).bind fun t258 => (some t258)) else (some false)) else ((busbarlaw21_one.f k).bind fun t259 => (some t259)))
end
def busbarlaw21_BudgetFits.f (k : Nat) (a0_0 : Int) (a0_1 : Int) (a0_2 : Bool) (a0_3 : Int) (a0_4 : Int) (l0_5 : List Int) (l0_6 : List (S40)) (a1 : Int) : Option (Bool) := (busbarlaw21_few.f a0_0 a0_1 a0_2 a0_3 a0_4 l0_5 l0_6).bind fun t211 => (if t211 = true then ((budget_Course_Fit.f a0_0 a0_1 a0_2 a0_3 a0_4 l0_5 l0_6 a1).bind fun bt212 => ((budget_Course_Fit.f bt212.1 bt212.2.1 bt212.2.2.1 bt212.2.2.2.1 bt212.2.2.2.2.1 bt212.2.2.2.2.2.1 bt212.2.2.2.2.2.2 a1).bind fun bt224 => ((budget_Course_Check.f bt212.1 bt212.2.1 bt212.2.2.1 bt212.2.2.2.1 bt212.2.2.2.2.1 bt212.2.2.2.2.2.1 bt212.2.2.2.2.2.2 a1).bind fun t236 => (if t236 = 0 then (if (bt224.2.2.2.2.2.2.length : Int) = (bt212.2.2.2.2.2.2.length : Int) then (busbarlaw21_BudgetFits.j0 k a1 (decide ((bt212.2.2.2.2.2.2.length : Int) > (l0_6.length : Int))) a0_0 a0_1 a0_2 a0_3 a0_4 l0_5 l0_6 bt212.1 bt212.2.1 bt212.2.2.1 bt212.2.2.2.1 bt212.2.2.2.2.1 bt212.2.2.2.2.2.1 bt212.2.2.2.2.2.2 bt224.1 bt224.2.1 bt224.2.2.1 bt224.2.2.2.1 bt224.2.2.2.2.1 bt224.2.2.2.2.2.1 bt224.2.2.2.2.2.2) else (busbarlaw21_BudgetFits.j0 k a1 true a0_0 a0_1 a0_2 a0_3 a0_4 l0_5 l0_6 bt212.1 bt212.2.1 bt212.2.2.1 bt212.2.2.2.1 bt212.2.2.2.2.1 bt212.2.2.2.2.2.1 bt212.2.2.2.2.2.2 bt224.1 bt224.2.1 bt224.2.2.1 bt224.2.2.2.1 bt224.2.2.2.2.1 bt224.2.2.2.2.2.1 bt224.2.2.2.2.2.2)) else (busbarlaw21_BudgetFits.j0 k a1 true a0_0 a0_1 a0_2 a0_3 a0_4 l0_5 l0_6 bt212.1 bt212.2.1 bt212.2.2.1 bt212.2.2.2.1 bt212.2.2.2.2.1 bt212.2.2.2.2.2.1 bt212.2.2.2.2.2.2 bt224.1 bt224.2.1 bt224.2.2.1 bt224.2.2.2.1 bt224.2.2.2.2.1 bt224.2.2.2.2.2.1 bt224.2.2.2.2.2.2))))) else (some true))
theorem busbarlaw21_BudgetFits.mono_l : ∀ k, (∀ y0 y1 y2 y3 y4 y5 y6 y7 y8 y9 y10 y11 y12 y13 y14 y15 y16 y17 y18 y19 y20 y21 y22, LeO (busbarlaw21_BudgetFits.j0 k y0 y1 y2 y3 y4 y5 y6 y7 y8 y9 y10 y11 y12 y13 y14 y15 y16 y17 y18 y19 y20 y21 y22) (busbarlaw21_BudgetFits.j0 (k + 1) y0 y1 y2 y3 y4 y5 y6 y7 y8 y9 y10 y11 y12 y13 y14 y15 y16 y17 y18 y19 y20 y21 y22)) ∧ (∀ y0 y1 y2 y3 y4 y5 y6 y7 y8 y9 y10 y11 y12 y13 y14 y15 y16 y17 y18 y19 y20 y21 y22, LeO (busbarlaw21_BudgetFits.l0 k y0 y1 y2 y3 y4 y5 y6 y7 y8 y9 y10 y11 y12 y13 y14 y15 y16 y17 y18 y19 y20 y21 y22) (busbarlaw21_BudgetFits.l0 (k + 1) y0 y1 y2 y3 y4 y5 y6 y7 y8 y9 y10 y11 y12 y13 y14 y15 y16 y17 y18 y19 y20 y21 y22)) ∧ (∀ y0 y1 y2 y3 y4 y5 y6 y7 y8 y9 y10 y11 y12 y13 y14 y15 y16 y17 y18 y19 y20 y21 y22, LeO (busbarlaw21_BudgetFits.j2 k y0 y1 y2 y3 y4 y5 y6 y7 y8 y9 y10 y11 y12 y13 y14 y15 y16 y17 y18 y19 y20 y21 y22) (busbarlaw21_BudgetFits.j2 (k + 1) y0 y1 y2 y3 y4 y5 y6 y7 y8 y9 y10 y11 y12 y13 y14 y15 y16 y17 y18 y19 y20 y21 y22)) ∧ (∀ y0 y1 y2 y3 y4 y5 y6 y7 y8 y9 y10 y11 y12 y13 y14, LeO (busbarlaw21_BudgetFits.j3 k y0 y1 y2 y3 y4 y5 y6 y7 y8 y9 y10 y11 y12 y13 y14) (busbarlaw21_BudgetFits.j3 (k + 1) y0 y1 y2 y3 y4 y5 y6 y7 y8 y9 y10 y11 y12 y13 y14))
 | 0 => ⟨fun _ _ _ _ _ _ _ _ _ _ _ _ _ _ _ _ _ _ _ _ _ _ _ r h => by simp [busbarlaw21_BudgetFits.j0] at h, fun _ _ _ _ _ _ _ _ _ _ _ _ _ _ _ _ _ _ _ _ _ _ _ r h => by simp [busbarlaw21_BudgetFits.l0] at h, fun _ _ _ _ _ _ _ _ _ _ _ _ _ _ _ _ _ _ _ _ _ _ _ r h => by simp [busbarlaw21_BudgetFits.j2] at h, fun _ _ _ _ _ _ _ _ _ _ _ _ _ _ _ r h => by simp [busbarlaw21_BudgetFits.j3] at h⟩
 | k + 1 => by
  obtain ⟨ih0, ih1, ih2, ih3⟩ := busbarlaw21_BudgetFits.mono_l k
  refine ⟨?_, ?_, ?_, ?_⟩
  · intro y0 y1 y2 y3 y4 y5 y6 y7 y8 y9 y10 y11 y12 y13 y14 y15 y16 y17 y18 y19 y20 y21 y22
    unfold busbarlaw21_BudgetFits.j0
    repeat' first
    | (with_reducible exact ih0 _ _ _ _ _ _ _ _ _ _ _ _ _ _ _ _ _ _ _ _ _ _ _)
    | (with_reducible exact ih1 _ _ _ _ _ _ _ _ _ _ _ _ _ _ _ _ _ _ _ _ _ _ _)
    | (with_reducible exact ih2 _ _ _ _ _ _ _ _ _ _ _ _ _ _ _ _ _ _ _ _ _ _ _)
    | (with_reducible exact ih3 _ _ _ _ _ _ _ _ _ _ _ _ _ _ _)
    | (with_reducible exact busbarlaw21_one.mono _)
    | (with_reducible exact LeO.refl _)
    | (with_reducible exact LeO.none _)
    | (with_reducible refine LeO.ite ?_ ?_)
    | (with_reducible refine LeO.bind ?_ (fun _ => ?_))
    | exact ih0 _ _ _ _ _ _ _ _ _ _ _ _ _ _ _ _ _ _ _ _ _ _ _
    | exact ih1 _ _ _ _ _ _ _ _ _ _ _ _ _ _ _ _ _ _ _ _ _ _ _
    | exact ih2 _ _ _ _ _ _ _ _ _ _ _ _ _ _ _ _ _ _ _ _ _ _ _
    | exact ih3 _ _ _ _ _ _ _ _ _ _ _ _ _ _ _
    | exact busbarlaw21_one.mono _
    | exact LeO.none _
    | refine LeO.ite ?_ ?_
    | refine LeO.bind ?_ (fun _ => ?_)
  · intro y0 y1 y2 y3 y4 y5 y6 y7 y8 y9 y10 y11 y12 y13 y14 y15 y16 y17 y18 y19 y20 y21 y22
    unfold busbarlaw21_BudgetFits.l0
    repeat' first
    | (with_reducible exact ih0 _ _ _ _ _ _ _ _ _ _ _ _ _ _ _ _ _ _ _ _ _ _ _)
    | (with_reducible exact ih1 _ _ _ _ _ _ _ _ _ _ _ _ _ _ _ _ _ _ _ _ _ _ _)
    | (with_reducible exact ih2 _ _ _ _ _ _ _ _ _ _ _ _ _ _ _ _ _ _ _ _ _ _ _)
    | (with_reducible exact ih3 _ _ _ _ _ _ _ _ _ _ _ _ _ _ _)
    | (with_reducible exact busbarlaw21_one.mono _)
    | (with_reducible exact LeO.refl _)
    | (with_reducible exact LeO.none _)
    | (with_reducible refine LeO.ite ?_ ?_)
    | (with_reducible refine LeO.bind ?_ (fun _ => ?_))
    | exact ih0 _ _ _ _ _ _ _ _ _ _ _ _ _ _ _ _ _ _ _ _ _ _ _
    | exact ih1 _ _ _ _ _ _ _ _ _ _ _ _ _ _ _ _ _ _ _ _ _ _ _
    | exact ih2 _ _ _ _ _ _ _ _ _ _ _ _ _ _ _ _ _ _ _ _ _ _ _
    | exact ih3 _ _ _ _ _ _ _ _ _ _ _ _ _ _ _
    | exact busbarlaw21_one.mono _
    | exact LeO.none _
    | refine LeO.ite ?_ ?_
    | refine LeO.bind ?_ (fun _ => ?_)
  · intro y0 y1 y2 y3 y4 y5 y6 y7 y8 y9 y10 y11 y12 y13 y14 y15 y16 y17 y18 y19 y20 y21 y22
    unfold busbarlaw21_BudgetFits.j2
    repeat' first
    | (with_reducible exact ih0 _ _ _ _ _ _ _ _ _ _ _ _ _ _ _ _ _ _ _ _ _ _ _)
    | (with_reducible exact ih1 _ _ _ _ _ _ _ _ _ _ _ _ _ _ _ _ _ _ _ _ _ _ _)
    | (with_reducible exact ih2 _ _ _ _ _ _ _ _ _ _ _ _ _ _ _ _ _ _ _ _ _ _ _)
    | (with_reducible exact ih3 _ _ _ _ _ _ _ _ _ _ _ _ _ _ _)
    | (with_reducible exact busbarlaw21_one.mono _)
    | (with_reducible exact LeO.refl _)
    | (with_reducible exact LeO.none _)
    | (with_reducible refine LeO.ite ?_ ?_)
    | (with_reducible refine LeO.bind ?_ (fun _ => ?_))
    | exact ih0 _ _ _ _ _ _ _ _ _ _ _ _ _ _ _ _ _ _ _ _ _ _ _
    | exact ih1 _ _ _ _ _ _ _ _ _ _ _ _ _ _ _ _ _ _ _ _ _ _ _
    | exact ih2 _ _ _ _ _ _ _ _ _ _ _ _ _ _ _ _ _ _ _ _ _ _ _
    | exact ih3 _ _ _ _ _ _ _ _ _ _ _ _ _ _ _
    | exact busbarlaw21_one.mono _
    | exact LeO.none _
    | refine LeO.ite ?_ ?_
    | refine LeO.bind ?_ (fun _ => ?_)
  intro y0 y1 y2 y3 y4 y5 y6 y7 y8 y9 y10 y11 y12 y13 y14
  unfold busbarlaw21_BudgetFits.j3
  repeat' first
  | (with_reducible exact ih0 _ _ _ _ _ _ _ _ _ _ _ _ _ _ _ _ _ _ _ _ _ _ _)
  | (with_reducible exact ih1 _ _ _ _ _ _ _ _ _ _ _ _ _ _ _ _ _ _ _ _ _ _ _)
  | (with_reducible exact ih2 _ _ _ _ _ _ _ _ _ _ _ _ _ _ _ _ _ _ _ _ _ _ _)
  | (with_reducible exact ih3 _ _ _ _ _ _ _ _ _ _ _ _ _ _ _)
  | (with_reducible exact busbarlaw21_one.mono _)
  | (with_reducible exact LeO.refl _)
  | (with_reducible exact LeO.none _)
  | (with_reducible refine LeO.ite ?_ ?_)
  | (with_reducible refine LeO.bind ?_ (fun _ => ?_))
  | exact ih0 _ _ _ _ _ _ _ _ _ _ _ _ _ _ _ _ _ _ _ _ _ _ _
  | exact ih1 _ _ _ _ _ _ _ _ _ _ _ _ _ _ _ _ _ _ _ _ _ _ _
  | exact ih2 _ _ _ _ _ _ _ _ _ _ _ _ _ _ _ _ _ _ _ _ _ _ _
  | exact ih3 _ _ _ _ _ _ _ _ _ _ _ _ _ _ _
  | exact busbarlaw21_one.mono _
  | exact LeO.none _
  | refine LeO.ite ?_ ?_
  | refine LeO.bind ?_ (fun _ => ?_)
theorem busbarlaw21_BudgetFits.mono : ∀ a0 a1 a2 a3 a4 a5 a6 a7 k, LeO (busbarlaw21_BudgetFits.f k a0 a1 a2 a3 a4 a5 a6 a7) (busbarlaw21_BudgetFits.f (k + 1) a0 a1 a2 a3 a4 a5 a6 a7) := by
 intro a0 a1 a2 a3 a4 a5 a6 a7 k
 obtain ⟨ih0, ih1, ih2, ih3⟩ := busbarlaw21_BudgetFits.mono_l k
 unfold busbarlaw21_BudgetFits.f
 repeat' first
  | (with_reducible exact ih0 _ _ _ _ _ _ _ _ _ _ _ _ _ _ _ _ _ _ _ _ _ _ _)
  | (with_reducible exact ih1 _ _ _ _ _ _ _ _ _ _ _ _ _ _ _ _ _ _ _ _ _ _ _)
  | (with_reducible exact ih2 _ _ _ _ _ _ _ _ _ _ _ _ _ _ _ _ _ _ _ _ _ _ _)
  | (with_reducible exact ih3 _ _ _ _ _ _ _ _ _ _ _ _ _ _ _)
  | (with_reducible exact busbarlaw21_one.mono _)
  | (with_reducible exact LeO.refl _)
  | (with_reducible exact LeO.none _)
  | (with_reducible refine LeO.ite ?_ ?_)
  | (with_reducible refine LeO.bind ?_ (fun _ => ?_))
  | exact ih0 _ _ _ _ _ _ _ _ _ _ _ _ _ _ _ _ _ _ _ _ _ _ _
  | exact ih1 _ _ _ _ _ _ _ _ _ _ _ _ _ _ _ _ _ _ _ _ _ _ _
  | exact ih2 _ _ _ _ _ _ _ _ _ _ _ _ _ _ _ _ _ _ _ _ _ _ _
  | exact ih3 _ _ _ _ _ _ _ _ _ _ _ _ _ _ _
  | exact busbarlaw21_one.mono _
  | exact LeO.none _
  | refine LeO.ite ?_ ?_
  | refine LeO.bind ?_ (fun _ => ?_)
def busbarlaw21_BudgetFits.T10 : Bool × List (List Nat × List Nat) := (true, [([], []), ([0], [0]), ([], []), ([1, 2], [1, 2]), ([3], [3]), ([], []), ([5], [5]), ([], []), ([6, 7], [6, 7]), ([8], [8]), ([4, 9], [4, 9])])
def busbarlaw21_BudgetFits.B10 : List Nat := [0, 1, 0, 7, 15, 0, 32, 0, 224, 480, 1023]
theorem busbarlaw21_BudgetFits.tab10 : rtab .any (opsOf Try.f4 10) = busbarlaw21_BudgetFits.T10 := by kernel_rfl
theorem busbarlaw21_BudgetFits.bits10 : waitsOk busbarlaw21_BudgetFits.T10.2 busbarlaw21_BudgetFits.B10 = true := by kernel_rfl
def busbarlaw21_BudgetFits.T13 : Bool × List (List Nat × List Nat) := (true, [([], []), ([0], [0]), ([1], [1]), ([], []), ([3], [3]), ([4], [4]), ([2, 5], [2, 5]), ([6], [6]), ([7], [7]), ([7], [7]), ([8, 9, 7, 7], [7, 8, 9]), ([7], [7]), ([7], [7]), ([11, 12, 10, 7], [7, 11, 12]), ([10, 13, 7], [7, 10, 13]), ([7, 14], [7, 14])])
def busbarlaw21_BudgetFits.B13 : List Nat := [0, 1, 3, 0, 8, 24, 63, 127, 255, 255, 1023, 255, 255, 8191, 16383, 32767]
theorem busbarlaw21_BudgetFits.tab13 : rtab .any (opsOf Try.f4 13) = busbarlaw21_BudgetFits.T13 := by kernel_rfl
theorem busbarlaw21_BudgetFits.bits13 : waitsOk busbarlaw21_BudgetFits.T13.2 busbarlaw21_BudgetFits.B13 = true := by kernel_rfl
def busbarlaw21_BudgetFits.T16 : Bool × List (List Nat × List Nat) := (true, [([], []), ([0], [0]), ([], []), ([2], [2]), ([3], [3]), ([4], [4]), ([5], [5]), ([6], [6]), ([1, 0, 1, 2, 3, 4, 5, 6, 7], [1]), ([8, 0, 1, 2, 3, 4, 5, 6, 7], [8]), ([9, 7, 0, 1, 2, 3, 4, 5, 6, 7], [7, 9])])
def busbarlaw21_BudgetFits.B16 : List Nat := [0, 1, 0, 4, 12, 28, 60, 124, 255, 511, 1023]
theorem busbarlaw21_BudgetFits.tab16 : rtab .any (opsOf Try.f4 16) = busbarlaw21_BudgetFits.T16 := by kernel_rfl
theorem busbarlaw21_BudgetFits.bits16 : waitsOk busbarlaw21_BudgetFits.T16.2 busbarlaw21_BudgetFits.B16 = true := by kernel_rfl
def busbarlaw21_BudgetFits.T17 : Bool × List (List Nat × List Nat) := (true, [([], []), ([0], [0]), ([1], [1]), ([2], [2]), ([], []), ([4], [4]), ([5], [5]), ([6], [6]), ([3, 7], [3, 7])])
def busbarlaw21_BudgetFits.B17 : List Nat := [0, 1, 3, 7, 0, 16, 48, 112, 255]
theorem busbarlaw21_BudgetFits.tab17 : rtab .any (opsOf Try.f4 17) = busbarlaw21_BudgetFits.T17 := by kernel_rfl
theorem busbarlaw21_BudgetFits.bits17 : waitsOk busbarlaw21_BudgetFits.T17.2 busbarlaw21_BudgetFits.B17 = true := by kernel_rfl
set_option maxHeartbeats 8000000 in
set_option maxRecDepth 100000 in
theorem busbarlaw21_BudgetFits.calls (k : Nat) (a0_0 : Int) (a0_1 : Int) (a0_2 : Bool) (a0_3 : Int) (a0_4 : Int) (A0_5 : Option Addr) (c0_5 : Nat) (l0_5 : List Int) (A0_6 : Option Addr) (c0_6 : Nat) (l0_6 : List (S40)) (a1 : Int) (r : Bool) (w : World) (hr0_5 : Kd.C (Kd.int .u8) w A0_5 l0_5.length l0_5) (hc0_5 : l0_5.length ≤ c0_5) (hr0_6 : Kd.C k40 w A0_6 l0_6.length l0_6) (hc0_6 : l0_6.length ≤ c0_6) (h : busbarlaw21_BudgetFits.f k a0_0 a0_1 a0_2 a0_3 a0_4 l0_5 l0_6 a1 = some r) :
 Calls Try.prog 4 #[.agg #[.int .i64 a0_0, .int .i64 a0_1, .bool a0_2, .int .i64 a0_3, .int .i64 a0_4, .slice A0_5 l0_5.length c0_5, .slice A0_6 l0_6.length c0_6], .int .i64 a1] w fun e w' => e = .returned (.bool r) ∧ Below w.heap.size w w' := by
 have hu27 := Try.underlying27
 have hu40 := Try.underlying40
 have HR0_5 := Aside0.mk hr0_5
 have HC0_5 := Aside0.mk hc0_5
 clear hr0_5 hc0_5
 have HR0_6 := Aside0.mk hr0_6
 have HC0_6 := Aside0.mk hc0_6
 clear hr0_6 hc0_6
 have HB := Aside0.mk (Below.refl w.heap.size w)
 have H : ((busbarlaw21_few.f a0_0 a0_1 a0_2 a0_3 a0_4 l0_5 l0_6).bind fun t211 => (if t211 = true then ((budget_Course_Fit.f a0_0 a0_1 a0_2 a0_3 a0_4 l0_5 l0_6 a1).bind fun bt212 => ((budget_Course_Fit.f bt212.1 bt212.2.1 bt212.2.2.1 bt212.2.2.2.1 bt212.2.2.2.2.1 bt212.2.2.2.2.2.1 bt212.2.2.2.2.2.2 a1).bind fun bt224 => ((budget_Course_Check.f bt212.1 bt212.2.1 bt212.2.2.1 bt212.2.2.2.1 bt212.2.2.2.2.1 bt212.2.2.2.2.2.1 bt212.2.2.2.2.2.2 a1).bind fun t236 => (if t236 = 0 then (if (bt224.2.2.2.2.2.2.length : Int) = (bt212.2.2.2.2.2.2.length : Int) then (busbarlaw21_BudgetFits.j0 k a1 (decide ((bt212.2.2.2.2.2.2.length : Int) > (l0_6.length : Int))) a0_0 a0_1 a0_2 a0_3 a0_4 l0_5 l0_6 bt212.1 bt212.2.1 bt212.2.2.1 bt212.2.2.2.1 bt212.2.2.2.2.1 bt212.2.2.2.2.2.1 bt212.2.2.2.2.2.2 bt224.1 bt224.2.1 bt224.2.2.1 bt224.2.2.2.1 bt224.2.2.2.2.1 bt224.2.2.2.2.2.1 bt224.2.2.2.2.2.2) else (busbarlaw21_BudgetFits.j0 k a1 true a0_0 a0_1 a0_2 a0_3 a0_4 l0_5 l0_6 bt212.1 bt212.2.1 bt212.2.2.1 bt212.2.2.2.1 bt212.2.2.2.2.1 bt212.2.2.2.2.2.1 bt212.2.2.2.2.2.2 bt224.1 bt224.2.1 bt224.2.2.1 bt224.2.2.2.1 bt224.2.2.2.2.1 bt224.2.2.2.2.2.1 bt224.2.2.2.2.2.2)) else (busbarlaw21_BudgetFits.j0 k a1 true a0_0 a0_1 a0_2 a0_3 a0_4 l0_5 l0_6 bt212.1 bt212.2.1 bt212.2.2.1 bt212.2.2.2.1 bt212.2.2.2.2.1 bt212.2.2.2.2.2.1 bt212.2.2.2.2.2.2 bt224.1 bt224.2.1 bt224.2.2.1 bt224.2.2.2.1 bt224.2.2.2.2.1 bt224.2.2.2.2.2.1 bt224.2.2.2.2.2.2))))) else (some true))) = some r := h
 clear h
 replace H := Option.bind_eq_some_iff.mp H
 obtain ⟨t211, A30, H⟩ := H
 replace H : (if t211 = true then ((budget_Course_Fit.f a0_0 a0_1 a0_2 a0_3 a0_4 l0_5 l0_6 a1).bind fun bt212 => ((budget_Course_Fit.f bt212.1 bt212.2.1 bt212.2.2.1 bt212.2.2.2.1 bt212.2.2.2.2.1 bt212.2.2.2.2.2.1 bt212.2.2.2.2.2.2 a1).bind fun bt224 => ((budget_Course_Check.f bt212.1 bt212.2.1 bt212.2.2.1 bt212.2.2.2.1 bt212.2.2.2.2.1 bt212.2.2.2.2.2.1 bt212.2.2.2.2.2.2 a1).bind fun t236 => (if t236 = 0 then (if (bt224.2.2.2.2.2.2.length : Int) = (bt212.2.2.2.2.2.2.length : Int) then (busbarlaw21_BudgetFits.j0 k a1 (decide ((bt212.2.2.2.2.2.2.length : Int) > (l0_6.length : Int))) a0_0 a0_1 a0_2 a0_3 a0_4 l0_5 l0_6 bt212.1 bt212.2.1 bt212.2.2.1 bt212.2.2.2.1 bt212.2.2.2.2.1 bt212.2.2.2.2.2.1 bt212.2.2.2.2.2.2 bt224.1 bt224.2.1 bt224.2.2.1 bt224.2.2.2.1 bt224.2.2.2.2.1 bt224.2.2.2.2.2.1 bt224.2.2.2.2.2.2) else (busbarlaw21_BudgetFits.j0 k a1 true a0_0 a0_1 a0_2 a0_3 a0_4 l0_5 l0_6 bt212.1 bt212.2.1 bt212.2.2.1 bt212.2.2.2.1 bt212.2.2.2.2.1 bt212.2.2.2.2.2.1 bt212.2.2.2.2.2.2 bt224.1 bt224.2.1 bt224.2.2.1 bt224.2.2.2.1 bt224.2.2.2.2.1 bt224.2.2.2.2.2.1 bt224.2.2.2.2.2.2)) else (busbarlaw21_BudgetFits.j0 k a1 true a0_0 a0_1 a0_2 a0_3 a0_4 l0_5 l0_6 bt212.1 bt212.2.1 bt212.2.2.1 bt212.2.2.2.1 bt212.2.2.2.2.1 bt212.2.2.2.2.2.1 bt212.2.2.2.2.2.2 bt224.1 bt224.2.1 bt224.2.2.1 bt224.2.2.2.1 bt224.2.2.2.2.1 bt224.2.2.2.2.2.1 bt224.2.2.2.2.2.2))))) else (some true)) = some r := H
 have A3 := Aside0.mk A30
 clear A30
 by_cases c4 : t211 = true
 · subst c4
   have H1 : ((budget_Course_Fit.f a0_0 a0_1 a0_2 a0_3 a0_4 l0_5 l0_6 a1).bind fun bt212 => ((budget_Course_Fit.f bt212.1 bt212.2.1 bt212.2.2.1 bt212.2.2.2.1 bt212.2.2.2.2.1 bt212.2.2.2.2.2.1 bt212.2.2.2.2.2.2 a1).bind fun bt224 => ((budget_Course_Check.f bt212.1 bt212.2.1 bt212.2.2.1 bt212.2.2.2.1 bt212.2.2.2.2.1 bt212.2.2.2.2.2.1 bt212.2.2.2.2.2.2 a1).bind fun t236 => (if t236 = 0 then (if (bt224.2.2.2.2.2.2.length : Int) = (bt212.2.2.2.2.2.2.length : Int) then (busbarlaw21_BudgetFits.j0 k a1 (decide ((bt212.2.2.2.2.2.2.length : Int) > (l0_6.length : Int))) a0_0 a0_1 a0_2 a0_3 a0_4 l0_5 l0_6 bt212.1 bt212.2.1 bt212.2.2.1 bt212.2.2.2.1 bt212.2.2.2.2.1 bt212.2.2.2.2.2.1 bt212.2.2.2.2.2.2 bt224.1 bt224.2.1 bt224.2.2.1 bt224.2.2.2.1 bt224.2.2.2.2.1 bt224.2.2.2.2.2.1 bt224.2.2.2.2.2.2) else (busbarlaw21_BudgetFits.j0 k a1 true a0_0 a0_1 a0_2 a0_3 a0_4 l0_5 l0_6 bt212.1 bt212.2.1 bt212.2.2.1 bt212.2.2.2.1 bt212.2.2.2.2.1 bt212.2.2.2.2.2.1 bt212.2.2.2.2.2.2 bt224.1 bt224.2.1 bt224.2.2.1 bt224.2.2.2.1 bt224.2.2.2.2.1 bt224.2.2.2.2.2.1 bt224.2.2.2.2.2.2)) else (busbarlaw21_BudgetFits.j0 k a1 true a0_0 a0_1 a0_2 a0_3 a0_4 l0_5 l0_6 bt212.1 bt212.2.1 bt212.2.2.1 bt212.2.2.2.1 bt212.2.2.2.2.1 bt212.2.2.2.2.2.1 bt212.2.2.2.2.2.2 bt224.1 bt224.2.1 bt224.2.2.1 bt224.2.2.2.1 bt224.2.2.2.2.1 bt224.2.2.2.2.2.1 bt224.2.2.2.2.2.2))))) = some r := by rw [if_pos rfl] at H; exact H
   clear H
   have H := H1
   clear H1
   replace H := Option.bind_eq_some_iff.mp H
   obtain ⟨⟨t212, t213, t214, t215, t216, t217, t220⟩, A50, H⟩ := H
   replace H : ((budget_Course_Fit.f t212 t213 t214 t215 t216 t217 t220 a1).bind fun bt224 => ((budget_Course_Check.f t212 t213 t214 t215 t216 t217 t220 a1).bind fun t236 => (if t236 = 0 then (if (bt224.2.2.2.2.2.2.length : Int) = (t220.length : Int) then (busbarlaw21_BudgetFits.j0 k a1 (decide ((t220.length : Int) > (l0_6.length : Int))) a0_0 a0_1 a0_2 a0_3 a0_4 l0_5 l0_6 t212 t213 t214 t215 t216 t217 t220 bt224.1 bt224.2.1 bt224.2.2.1 bt224.2.2.2.1 bt224.2.2.2.2.1 bt224.2.2.2.2.2.1 bt224.2.2.2.2.2.2) else (busbarlaw21_BudgetFits.j0 k a1 true a0_0 a0_1 a0_2 a0_3 a0_4 l0_5 l0_6 t212 t213 t214 t215 t216 t217 t220 bt224.1 bt224.2.1 bt224.2.2.1 bt224.2.2.2.1 bt224.2.2.2.2.1 bt224.2.2.2.2.2.1 bt224.2.2.2.2.2.2)) else (busbarlaw21_BudgetFits.j0 k a1 true a0_0 a0_1 a0_2 a0_3 a0_4 l0_5 l0_6 t212 t213 t214 t215 t216 t217 t220 bt224.1 bt224.2.1 bt224.2.2.1 bt224.2.2.2.1 bt224.2.2.2.2.1 bt224.2.2.2.2.2.1 bt224.2.2.2.2.2.2)))) = some r := H
   have A5 := Aside0.mk A50
   clear A50
   replace H := Option.bind_eq_some_iff.mp H
   obtain ⟨⟨t224, t225, t226, t227, t228, t229, t232⟩, A60, H⟩ := H
   replace H : ((budget_Course_Check.f t212 t213 t214 t215 t216 t217 t220 a1).bind fun t236 => (if t236 = 0 then (if (t232.length : Int) = (t220.length : Int) then (busbarlaw21_BudgetFits.j0 k a1 (decide ((t220.length : Int) > (l0_6.length : Int))) a0_0 a0_1 a0_2 a0_3 a0_4 l0_5 l0_6 t212 t213 t214 t215 t216 t217 t220 t224 t225 t226 t227 t228 t229 t232) else (busbarlaw21_BudgetFits.j0 k a1 true a0_0 a0_1 a0_2 a0_3 a0_4 l0_5 l0_6 t212 t213 t214 t215 t216 t217 t220 t224 t225 t226 t227 t228 t229 t232)) else (busbarlaw21_BudgetFits.j0 k a1 true a0_0 a0_1 a0_2 a0_3 a0_4 l0_5 l0_6 t212 t213 t214 t215 t216 t217 t220 t224 t225 t226 t227 t228 t229 t232))) = some r := H
   have A6 := Aside0.mk A60
   clear A60
   have HC7 := Aside0.mk H
   clear H
   go_enter Try.func4, Try.ntmps4
   go_upto_region 5 with (first | ((with_reducible refine gate_dst (N := 2) rfl ?_); (try (refine gate_guard (by rfl) ?_; dsimp only)); refine box_event ?hg (N := 2) ?hd (cs := #[.int .i64 a0_0, .int .i64 a0_1, .bool a0_2, .int .i64 a0_3, .int .i64 a0_4, .slice A0_5 l0_5.length c0_5, .slice A0_6 l0_6.length c0_6]) (t := 27) ?hr ?_; (case hd => rfl); (case hg => rfl); (case hr => first | (go_simp; done) | (go_simp; rfl)); intro gb210 hg w8 hbox hb; have n0_ := Aside0.mk (below_step (be_ HB) hb); have n1_ := Aside0.mk (hbox); have n2_ := Aside0.mk ((by rw [hg]; exact (below_size (be_ HB)) : w.heap.size ≤ gb210)); have n3_ := Aside0.mk ((by rw [hg]; exact (below_size (be_ HB)) : w.heap.size ≤ gb210)); clear HB; have HB := n0_; have BK210 := n1_; have GW210 := n2_; have GE210 := n3_; clear n0_ n1_ n2_ n3_; clear hb hbox hg; have hcz9_0 : w8.cell? ⟨gb210, 0, none⟩ = some (.int .i64 a0_0) := (blk_cell BK210.out 0).trans rfl; have hcz9_1 : w8.cell? ⟨gb210, 1, none⟩ = some (.int .i64 a0_1) := (blk_cell BK210.out 1).trans rfl; have hcz9_2 : w8.cell? ⟨gb210, 2, none⟩ = some (.bool a0_2) := (blk_cell BK210.out 2).trans rfl; have hcz9_3 : w8.cell? ⟨gb210, 3, none⟩ = some (.int .i64 a0_3) := (blk_cell BK210.out 3).trans rfl; have hcz9_4 : w8.cell? ⟨gb210, 4, none⟩ = some (.int .i64 a0_4) := (blk_cell BK210.out 4).trans rfl; have hcz9_5 : w8.cell? ⟨gb210, 5, none⟩ = some (.slice A0_5 l0_5.length c0_5) := (blk_cell BK210.out 5).trans rfl; have hcz9_6 : w8.cell? ⟨gb210, 6, none⟩ = some (.slice A0_6 l0_6.length c0_6) := (blk_cell BK210.out 6).trans rfl; have hfz9_0 := blk_frozen BK210.out 0; have hfz9_1 := blk_frozen BK210.out 1; have hfz9_2 := blk_frozen BK210.out 2; have hfz9_3 := blk_frozen BK210.out 3; have hfz9_4 := blk_frozen BK210.out 4; have hfz9_5 := blk_frozen BK210.out 5; have hfz9_6 := blk_frozen BK210.out 6) | ((with_reducible refine gate_callee (f := 17) rfl ?_); refine goesL_ (some 10) rfl rfl Try.func17 (by kernel_rfl) rfl #[.agg #[.int .i64 a0_0, .int .i64 a0_1, .bool a0_2, .int .i64 a0_3, .int .i64 a0_4, .slice A0_5 l0_5.length c0_5, .slice A0_6 l0_6.length c0_6]] rfl (by (try simp only [List.map_toArray, List.map_cons, List.map_nil]); first | done | rfl | (simp only [List.length_drop, List.length_take]; rfl)) ?_; (with_reducible refine (busbarlaw21_few.calls a0_0 a0_1 a0_2 a0_3 a0_4 _ _ l0_5 _ _ l0_6 true _ ?side1 ?side2 ?side3 ?side4 A3.out).mono ?_); (case side1 => repeat (first | exact (Kd.C_below HR0_5.out HB.out) | (with_reducible refine Kd.C_alloc ?_ _) | (with_reducible refine Kd.C_drewN ?_ _) | (with_reducible refine Kd.C_drew ?_))); (case side2 => exact HC0_5.out); (case side3 => repeat (first | exact (Kd.C_below HR0_6.out HB.out) | (with_reducible refine Kd.C_alloc ?_ _) | (with_reducible refine Kd.C_drewN ?_ _) | (with_reducible refine Kd.C_drew ?_))); (case side4 => exact HC0_6.out); rintro e w10 ⟨rfl, hb⟩; refine ⟨_, rfl, ?_⟩; have n0_ := bb_ BK210 hb; have n1_ := Aside0.mk (below_step (be_ HB) hb); clear BK210; clear HB; have BK210 := n0_; have HB := n1_; clear n0_ n1_; (try clear hb); (try clear hb2); (try clear hk); (try clear hi); have hcz11_0 : w10.cell? ⟨gb210, 0, none⟩ = some (.int .i64 a0_0) := (blk_cell BK210.out 0).trans rfl; have hcz11_1 : w10.cell? ⟨gb210, 1, none⟩ = some (.int .i64 a0_1) := (blk_cell BK210.out 1).trans rfl; have hcz11_2 : w10.cell? ⟨gb210, 2, none⟩ = some (.bool a0_2) := (blk_cell BK210.out 2).trans rfl; have hcz11_3 : w10.cell? ⟨gb210, 3, none⟩ = some (.int .i64 a0_3) := (blk_cell BK210.out 3).trans rfl; have hcz11_4 : w10.cell? ⟨gb210, 4, none⟩ = some (.int .i64 a0_4) := (blk_cell BK210.out 4).trans rfl; have hcz11_5 : w10.cell? ⟨gb210, 5, none⟩ = some (.slice A0_5 l0_5.length c0_5) := (blk_cell BK210.out 5).trans rfl; have hcz11_6 : w10.cell? ⟨gb210, 6, none⟩ = some (.slice A0_6 l0_6.length c0_6) := (blk_cell BK210.out 6).trans rfl; have hfz11_0 := blk_frozen BK210.out 0; have hfz11_1 := blk_frozen BK210.out 1; have hfz11_2 := blk_frozen BK210.out 2; have hfz11_3 := blk_frozen BK210.out 3; have hfz11_4 := blk_frozen BK210.out 4; have hfz11_5 := blk_frozen BK210.out 5; have hfz11_6 := blk_frozen BK210.out 6) | ((with_reducible refine gate_callee (f := 21) rfl ?_); refine goesL_ (some 14) rfl rfl Try.func21 (by kernel_rfl) rfl #[.agg #[.int .i64 a0_0, .int .i64 a0_1, .bool a0_2, .int .i64 a0_3, .int .i64 a0_4, .slice A0_5 l0_5.length c0_5, .slice A0_6 l0_6.length c0_6], .int .i64 a1] rfl (by (try simp only [List.map_toArray, List.map_cons, List.map_nil]); first | done | rfl | (simp only [List.length_drop, List.length_take]; rfl)) ?_; (with_reducible refine (budget_Course_Fit.calls a0_0 a0_1 a0_2 a0_3 a0_4 _ _ l0_5 _ _ l0_6 a1 t212 t213 t214 t215 t216 t217 t220 _ ?side1 ?side2 ?side3 ?side4 A5.out).mono ?_); (case side1 => repeat (first | exact (Kd.C_below HR0_5.out HB.out) | (with_reducible refine Kd.C_alloc ?_ _) | (with_reducible refine Kd.C_drewN ?_ _) | (with_reducible refine Kd.C_drew ?_))); (case side2 => exact HC0_5.out); (case side3 => repeat (first | exact (Kd.C_below HR0_6.out HB.out) | (with_reducible refine Kd.C_alloc ?_ _) | (with_reducible refine Kd.C_drewN ?_ _) | (with_reducible refine Kd.C_drew ?_))); (case side4 => exact HC0_6.out); rintro e w12 ⟨v218, v221, rfl, ho0, ho1, hb⟩; refine ⟨_, rfl, ?_⟩; have n0_ := Aside0.mk (Kd.R_lower ho0 (below_size (be_ HB))); have n1_ := Aside0.mk (Kd.R_lower ho1 (below_size (be_ HB))); have n2_ := bb_ BK210 hb; have n3_ := Aside0.mk (below_step (be_ HB) hb); clear BK210; clear HB; have HO219 := n0_; have HO222 := n1_; have BK210 := n2_; have HB := n3_; clear n0_ n1_ n2_ n3_; (try clear hb); (try clear hb2); (try clear hk); (try clear hi); (try clear ho0); (try clear ho1)) | ((with_reducible refine gate_dst (N := 5) rfl ?_); (try (refine gate_guard (by rfl) ?_; dsimp only)); refine box_event ?hg (N := 5) ?hd (cs := #[.int .i64 0, .int .i64 0, .bool false, .int .i64 0, .int .i64 0, .slice none 0 0, .slice none 0 0]) (t := 27) ?hr ?_; (case hd => rfl); (case hg => rfl); (case hr => first | (go_simp; done) | (go_simp; rfl)); intro gb223 hg w13 hbox hb; have n0_ := rb_ HO219 hb; have n1_ := rb_ HO222 hb; have n2_ := bb_ BK210 hb; have n3_ := Aside0.mk (below_step (be_ HB) hb); have n4_ := Aside0.mk (hbox); have n5_ := Aside0.mk ((by rw [hg]; exact (below_size (be_ HB)) : w.heap.size ≤ gb223)); have n6_ := Aside0.mk ((by rw [hg]; exact (below_size (be_ HB)) : w.heap.size ≤ gb223)); have n7_ := Aside0.mk ((by rw [hg]; exact Nat.ne_of_lt (blk_lt (g := gb210) (o := .cells #[.int .i64 a0_0, .int .i64 a0_1, .bool a0_2, .int .i64 a0_3, .int .i64 a0_4, .slice A0_5 l0_5.length c0_5, .slice A0_6 l0_6.length c0_6] 27 (0, 0)) (bk_ BK210)) : gb210 ≠ gb223)); have n8_ := Aside0.mk ((by rw [hg]; exact Nat.ne_of_gt (blk_lt (g := gb210) (o := .cells #[.int .i64 a0_0, .int .i64 a0_1, .bool a0_2, .int .i64 a0_3, .int .i64 a0_4, .slice A0_5 l0_5.length c0_5, .slice A0_6 l0_6.length c0_6] 27 (0, 0)) (bk_ BK210)) : gb223 ≠ gb210)); clear HO219; clear HO222; clear BK210; clear HB; have HO219 := n0_; have HO222 := n1_; have BK210 := n2_; have HB := n3_; have BK223 := n4_; have GW223 := n5_; have GE223 := n6_; have NB210_223 := n7_; have NB223_210 := n8_; clear n0_ n1_ n2_ n3_ n4_ n5_ n6_ n7_ n8_; clear hb hbox hg; have hnb14 := NB223_210.out; have hnc14 := NB210_223.out; have hcz15_0 : w13.cell? ⟨gb223, 0, none⟩ = some (.int .i64 0) := (blk_cell BK223.out 0).trans rfl; have hcz15_1 : w13.cell? ⟨gb223, 1, none⟩ = some (.int .i64 0) := (blk_cell BK223.out 1).trans rfl; have hcz15_2 : w13.cell? ⟨gb223, 2, none⟩ = some (.bool false) := (blk_cell BK223.out 2).trans rfl; have hcz15_3 : w13.cell? ⟨gb223, 3, none⟩ = some (.int .i64 0) := (blk_cell BK223.out 3).trans rfl; have hcz15_4 : w13.cell? ⟨gb223, 4, none⟩ = some (.int .i64 0) := (blk_cell BK223.out 4).trans rfl; have hcz15_5 : w13.cell? ⟨gb223, 5, none⟩ = some (.slice none 0 0) := (blk_cell BK223.out 5).trans rfl; have hcz15_6 : w13.cell? ⟨gb223, 6, none⟩ = some (.slice none 0 0) := (blk_cell BK223.out 6).trans rfl; have hfz15_0 := blk_frozen BK223.out 0; have hfz15_1 := blk_frozen BK223.out 1; have hfz15_2 := blk_frozen BK223.out 2; have hfz15_3 := blk_frozen BK223.out 3; have hfz15_4 := blk_frozen BK223.out 4; have hfz15_5 := blk_frozen BK223.out 5; have hfz15_6 := blk_frozen BK223.out 6; obtain ⟨Ao16, co16, eo16⟩ := Kd.R_slice HO219.out; subst eo16; obtain ⟨Ao17, co17, eo17⟩ := Kd.R_slice HO222.out; subst eo17) | ((with_reducible refine gate_callee (f := 21) rfl ?_); refine goesL_ (some 17) rfl rfl Try.func21 (by kernel_rfl) rfl #[.agg #[.int .i64 t212, .int .i64 t213, .bool t214, .int .i64 t215, .int .i64 t216, .slice Ao16 t217.length co16, .slice Ao17 t220.length co17], .int .i64 a1] rfl (by (try simp only [List.map_toArray, List.map_cons, List.map_nil]); first | done | rfl | (simp only [List.length_drop, List.length_take]; rfl)) ?_; (with_reducible refine (budget_Course_Fit.calls t212 t213 t214 t215 t216 _ _ t217 _ _ t220 a1 t224 t225 t226 t227 t228 t229 t232 _ ?side1 ?side2 ?side3 ?side4 A6.out).mono ?_); (case side1 => refine (Kd.R_reads' (e := 5) (base := w.heap.size) (ok := fun k_ => True) (n := t217.length) (c := co16) ?_).2.2; exact (by (with_reducible repeat (first | apply Kd.R_alloc | apply Kd.R_drewN | apply Kd.R_drew)); exact (Kd.R_mono (R7_ HO219.out BK223.out (by decide) _ _ _ _ _ _ _) (fun _ h_ => h_.1)))); (case side2 => exact (Kd.R_reads' HO219.out).2.1); (case side3 => refine (Kd.R_reads' (e := 40) (base := w.heap.size) (ok := fun k_ => True) (n := t220.length) (c := co17) ?_).2.2; exact (by (with_reducible repeat (first | apply Kd.R_alloc | apply Kd.R_drewN | apply Kd.R_drew)); exact (Kd.R_mono (R7_ HO222.out BK223.out (by decide) _ _ _ _ _ _ _) (fun _ h_ => h_.1)))); (case side4 => exact (Kd.R_reads' HO222.out).2.1); rintro e w18 ⟨v230, v233, rfl, ho0, ho1, hb⟩; refine ⟨_, rfl, ?_⟩; have n0_ := Aside0.mk (Kd.R_elder' (by (with_reducible repeat (first | apply Kd.R_alloc | apply Kd.R_drewN | apply Kd.R_drew)); exact (Kd.R_mono (R7_ HO219.out BK223.out (by decide) _ _ _ _ _ _ _) (fun _ h_ => h_.1))) (Kd.R_base ho0) hb); have n1_ := Aside0.mk (Kd.R_elder' (by (with_reducible repeat (first | apply Kd.R_alloc | apply Kd.R_drewN | apply Kd.R_drew)); exact (Kd.R_mono (R7_ HO222.out BK223.out (by decide) _ _ _ _ _ _ _) (fun _ h_ => h_.1))) (Kd.R_base ho1) hb); have n2_ := Aside0.mk (Kd.R_lower (Kd.R_new' ho0 (Kd.R_lt (by (with_reducible repeat (first | apply Kd.R_alloc | apply Kd.R_drewN | apply Kd.R_drew)); exact (Kd.R_mono (R7_ HO219.out BK223.out (by decide) _ _ _ _ _ _ _) (fun _ h_ => h_.1))))) (below_size (be_ HB))); have n3_ := Aside0.mk (Kd.R_lower (Kd.R_new' ho1 (Kd.R_lt (by (with_reducible repeat (first | apply Kd.R_alloc | apply Kd.R_drewN | apply Kd.R_drew)); exact (Kd.R_mono (R7_ HO222.out BK223.out (by decide) _ _ _ _ _ _ _) (fun _ h_ => h_.1))))) (below_size (be_ HB))); have n4_ := bfb_ BK210 NB210_223 hb; have n5_ := Aside0.mk (blk_below (g := gb223) (o := .cells #[.int .i64 t212, .int .i64 t213, .bool t214, .int .i64 t215, .int .i64 t216, .slice Ao16 t217.length co16, .slice Ao17 t220.length co17] 27 (0, 0)) (by (with_reducible repeat (first | refine blk_drewN ?_ _ | refine blk_drew ?_ | refine blk_alloc ?_ _)); refine blk_put (cs := #[.int .i64 t212, .int .i64 t213, .bool t214, .int .i64 t215, .int .i64 t216, .slice Ao16 t217.length co16, .slice none 0 0]) ?_ 6 _ rfl; (with_reducible repeat (first | refine blk_drewN ?_ _ | refine blk_drew ?_ | refine blk_alloc ?_ _)); refine blk_put (cs := #[.int .i64 t212, .int .i64 t213, .bool t214, .int .i64 t215, .int .i64 t216, .slice none 0 0, .slice none 0 0]) ?_ 5 _ rfl; (with_reducible repeat (first | refine blk_drewN ?_ _ | refine blk_drew ?_ | refine blk_alloc ?_ _)); refine blk_put (cs := #[.int .i64 t212, .int .i64 t213, .bool t214, .int .i64 t215, .int .i64 0, .slice none 0 0, .slice none 0 0]) ?_ 4 _ rfl; (with_reducible repeat (first | refine blk_drewN ?_ _ | refine blk_drew ?_ | refine blk_alloc ?_ _)); refine blk_put (cs := #[.int .i64 t212, .int .i64 t213, .bool t214, .int .i64 0, .int .i64 0, .slice none 0 0, .slice none 0 0]) ?_ 3 _ rfl; (with_reducible repeat (first | refine blk_drewN ?_ _ | refine blk_drew ?_ | refine blk_alloc ?_ _)); refine blk_put (cs := #[.int .i64 t212, .int .i64 t213, .bool false, .int .i64 0, .int .i64 0, .slice none 0 0, .slice none 0 0]) ?_ 2 _ rfl; (with_reducible repeat (first | refine blk_drewN ?_ _ | refine blk_drew ?_ | refine blk_alloc ?_ _)); refine blk_put (cs := #[.int .i64 t212, .int .i64 0, .bool false, .int .i64 0, .int .i64 0, .slice none 0 0, .slice none 0 0]) ?_ 1 _ rfl; (with_reducible repeat (first | refine blk_drewN ?_ _ | refine blk_drew ?_ | refine blk_alloc ?_ _)); refine blk_put (cs := #[.int .i64 0, .int .i64 0, .bool false, .int .i64 0, .int .i64 0, .slice none 0 0, .slice none 0 0]) ?_ 0 _ rfl; (with_reducible repeat (first | refine blk_drewN ?_ _ | refine blk_drew ?_ | refine blk_alloc ?_ _)); exact BK223.out) hb); have n6_ := Aside0.mk (below_step (be_ HB) hb); clear HO219; clear HO222; clear BK210; clear BK223; clear HB; have HO219 := n0_; have HO222 := n1_; have HO231 := n2_; have HO234 := n3_; have BK210 := n4_; have BK223 := n5_; have HB := n6_; clear n0_ n1_ n2_ n3_ n4_ n5_ n6_; (try clear hb); (try clear hb2); (try clear hk); (try clear hi); (try clear ho0); (try clear ho1)) | ((with_reducible refine gate_dst (N := 6) rfl ?_); (try (refine gate_guard (by rfl) ?_; dsimp only)); refine box_event ?hg (N := 6) ?hd (cs := #[.int .i64 0, .int .i64 0, .bool false, .int .i64 0, .int .i64 0, .slice none 0 0, .slice none 0 0]) (t := 27) ?hr ?_; (case hd => rfl); (case hg => rfl); (case hr => first | (go_simp; done) | (go_simp; rfl)); intro gb235 hg w19 hbox hb; have n0_ := rb_ HO219 hb; have n1_ := rb_ HO222 hb; have n2_ := rb_ HO231 hb; have n3_ := rb_ HO234 hb; have n4_ := bb_ BK210 hb; have n5_ := bb_ BK223 hb; have n6_ := Aside0.mk (below_step (be_ HB) hb); have n7_ := Aside0.mk (hbox); have n8_ := Aside0.mk ((by rw [hg]; exact (below_size (be_ HB)) : w.heap.size ≤ gb235)); have n9_ := Aside0.mk ((by rw [hg]; exact (below_size (be_ HB)) : w.heap.size ≤ gb235)); have n10_ := Aside0.mk ((by rw [hg]; exact Nat.ne_of_lt (blk_lt (g := gb210) (o := .cells #[.int .i64 a0_0, .int .i64 a0_1, .bool a0_2, .int .i64 a0_3, .int .i64 a0_4, .slice A0_5 l0_5.length c0_5, .slice A0_6 l0_6.length c0_6] 27 (0, 0)) (bk_ BK210)) : gb210 ≠ gb235)); have n11_ := Aside0.mk ((by rw [hg]; exact Nat.ne_of_gt (blk_lt (g := gb210) (o := .cells #[.int .i64 a0_0, .int .i64 a0_1, .bool a0_2, .int .i64 a0_3, .int .i64 a0_4, .slice A0_5 l0_5.length c0_5, .slice A0_6 l0_6.length c0_6] 27 (0, 0)) (bk_ BK210)) : gb235 ≠ gb210)); have n12_ := Aside0.mk ((by rw [hg]; exact Nat.ne_of_lt (blk_lt (g := gb223) (o := .cells #[.int .i64 t212, .int .i64 t213, .bool t214, .int .i64 t215, .int .i64 t216, .slice Ao16 t217.length co16, .slice Ao17 t220.length co17] 27 (0, 0)) (bk_ BK223)) : gb223 ≠ gb235)); have n13_ := Aside0.mk ((by rw [hg]; exact Nat.ne_of_gt (blk_lt (g := gb223) (o := .cells #[.int .i64 t212, .int .i64 t213, .bool t214, .int .i64 t215, .int .i64 t216, .slice Ao16 t217.length co16, .slice Ao17 t220.length co17] 27 (0, 0)) (bk_ BK223)) : gb235 ≠ gb223)); clear HO219; clear HO222; clear HO231; clear HO234; clear BK210; clear BK223; clear HB; have HO219 := n0_; have HO222 := n1_; have HO231 := n2_; have HO234 := n3_; have BK210 := n4_; have BK223 := n5_; have HB := n6_; have BK235 := n7_; have GW235 := n8_; have GE235 := n9_; have NB210_235 := n10_; have NB235_210 := n11_; have NB223_235 := n12_; have NB235_223 := n13_; clear n0_ n1_ n2_ n3_ n4_ n5_ n6_ n7_ n8_ n9_ n10_ n11_ n12_ n13_; clear hb hbox hg; have hnb20 := NB235_210.out; have hnc20 := NB210_235.out; have hnb21 := NB235_223.out; have hnc21 := NB223_235.out; have hcz22_0 : w19.cell? ⟨gb235, 0, none⟩ = some (.int .i64 0) := (blk_cell BK235.out 0).trans rfl; have hcz22_1 : w19.cell? ⟨gb235, 1, none⟩ = some (.int .i64 0) := (blk_cell BK235.out 1).trans rfl; have hcz22_2 : w19.cell? ⟨gb235, 2, none⟩ = some (.bool false) := (blk_cell BK235.out 2).trans rfl; have hcz22_3 : w19.cell? ⟨gb235, 3, none⟩ = some (.int .i64 0) := (blk_cell BK235.out 3).trans rfl; have hcz22_4 : w19.cell? ⟨gb235, 4, none⟩ = some (.int .i64 0) := (blk_cell BK235.out 4).trans rfl; have hcz22_5 : w19.cell? ⟨gb235, 5, none⟩ = some (.slice none 0 0) := (blk_cell BK235.out 5).trans rfl; have hcz22_6 : w19.cell? ⟨gb235, 6, none⟩ = some (.slice none 0 0) := (blk_cell BK235.out 6).trans rfl; have hfz22_0 := blk_frozen BK235.out 0; have hfz22_1 := blk_frozen BK235.out 1; have hfz22_2 := blk_frozen BK235.out 2; have hfz22_3 := blk_frozen BK235.out 3; have hfz22_4 := blk_frozen BK235.out 4; have hfz22_5 := blk_frozen BK235.out 5; have hfz22_6 := blk_frozen BK235.out 6; obtain ⟨Ao23, co23, eo23⟩ := Kd.R_slice HO231.out; subst eo23; obtain ⟨Ao24, co24, eo24⟩ := Kd.R_slice HO234.out; subst eo24))
   (try simp only [Act.put, List.setIfInBounds_toArray, List.set_cons_zero, List.set_cons_succ])
   go_cut [39] (fun v39 wc => ∃ (kq : Nat) (x39_6 : Bool), v39 = .bool x39_6 ∧ Aside0 (busbarlaw21_BudgetFits.j0 kq a1 x39_6 a0_0 a0_1 a0_2 a0_3 a0_4 l0_5 l0_6 t212 t213 t214 t215 t216 t217 t220 t224 t225 t226 t227 t228 t229 t232 = some r) ∧ Aside0 (kq ≤ k) ∧ Aside0 (Kd.R (Kd.int .u8) 5 wc w.heap.size (fun k_ => some k_ ≠ ((.slice Ao23 t229.length co23) : Value).ownBlock) (.slice Ao16 t217.length co16) t217) ∧ Aside0 (Kd.R k40 40 wc w.heap.size (fun k_ => some k_ ≠ ((.slice Ao24 t232.length co24) : Value).ownBlock) (.slice Ao17 t220.length co17) t220) ∧ Aside0 (Kd.R (Kd.int .u8) 5 wc w.heap.size (fun k_ => some k_ ≠ ((.slice Ao16 t217.length co16) : Value).ownBlock) (.slice Ao23 t229.length co23) t229) ∧ Aside0 (Kd.R k40 40 wc w.heap.size (fun k_ => some k_ ≠ ((.slice Ao17 t220.length co17) : Value).ownBlock) (.slice Ao24 t232.length co24) t232) ∧ Aside0 (wc.heap[gb210]? = some (.cells #[.int .i64 a0_0, .int .i64 a0_1, .bool a0_2, .int .i64 a0_3, .int .i64 a0_4, (.slice A0_5 l0_5.length c0_5), (.slice A0_6 l0_6.length c0_6)] 27 (0, 0))) ∧ Aside0 (wc.heap[gb223]? = some (.cells #[.int .i64 t212, .int .i64 t213, .bool t214, .int .i64 t215, .int .i64 t216, (.slice Ao16 t217.length co16), (.slice Ao17 t220.length co17)] 27 (0, 0))) ∧ Aside0 (wc.heap[gb235]? = some (.cells #[.int .i64 t224, .int .i64 t225, .bool t226, .int .i64 t227, .int .i64 t228, (.slice Ao23 t229.length co23), (.slice Ao24 t232.length co24)] 27 (0, 0))) ∧ Aside0 (Below w.heap.size w wc))
   case first =>
    have H := HC7.out
    clear HC7
    replace H := Option.bind_eq_some_iff.mp H
    obtain ⟨t236, A250, H⟩ := H
    replace H : (if t236 = 0 then (if (t232.length : Int) = (t220.length : Int) then (busbarlaw21_BudgetFits.j0 k a1 (decide ((t220.length : Int) > (l0_6.length : Int))) a0_0 a0_1 a0_2 a0_3 a0_4 l0_5 l0_6 t212 t213 t214 t215 t216 t217 t220 t224 t225 t226 t227 t228 t229 t232) else (busbarlaw21_BudgetFits.j0 k a1 true a0_0 a0_1 a0_2 a0_3 a0_4 l0_5 l0_6 t212 t213 t214 t215 t216 t217 t220 t224 t225 t226 t227 t228 t229 t232)) else (busbarlaw21_BudgetFits.j0 k a1 true a0_0 a0_1 a0_2 a0_3 a0_4 l0_5 l0_6 t212 t213 t214 t215 t216 t217 t220 t224 t225 t226 t227 t228 t229 t232)) = some r := H
    have A25 := Aside0.mk A250
    clear A250
    by_cases c26 : t236 = 0
    · rw [if_pos c26] at H
      have c26b0 : (t236 == 0) = true := beq_iff_eq.mpr c26
      have c26b1 : (t236 != 0) = false := bne_eq_false_iff_eq.mpr c26
      clear c26
      (first | rw [c26b0] | (simp only [i64_w, i32_w]; rw [c26b0]) | rw [c26b1] | skip)
      by_cases c27 : (t232.length : Int) = (t220.length : Int)
      · rw [if_pos c27] at H
        have c27b0 : ((t232.length : Int) == (t220.length : Int)) = true := beq_iff_eq.mpr c27
        have c27b1 : ((t232.length : Int) != (t220.length : Int)) = false := bne_eq_false_iff_eq.mpr c27
        have c27b2 : (t232.length == t220.length) = true := by first | simpa using c27 | (simp at c27 ⊢; omega)
        clear c27
        have H' := Aside0.mk H
        clear H
        have hnb28 := NB223_210.out
        have hnc28 := NB210_223.out
        have hnb29 := NB223_235.out
        have hnc29 := NB235_223.out
        obtain ⟨hcz30_0, hcz30_1, hcz30_2, hcz30_3, hcz30_4, hcz30_5, hcz30_6⟩ := bc7_ BK223
        obtain ⟨hfz30_0, hfz30_1, hfz30_2, hfz30_3, hfz30_4, hfz30_5, hfz30_6⟩ := bz7_ BK223
        go_wp2_with (first | ((with_reducible refine gate_callee (f := 23) rfl ?_); refine goesL_ (some 20) rfl rfl Try.func23 (by kernel_rfl) rfl #[.agg #[.int .i64 t212, .int .i64 t213, .bool t214, .int .i64 t215, .int .i64 t216, .slice Ao16 t217.length co16, .slice Ao17 t220.length co17], .int .i64 a1] rfl (by (try simp only [List.map_toArray, List.map_cons, List.map_nil]); first | done | rfl | (simp only [List.length_drop, List.length_take]; rfl)) ?_; (with_reducible refine (budget_Course_Check.calls t212 t213 t214 t215 t216 _ _ t217 _ _ t220 a1 t236 _ ?side1 ?side2 ?side3 ?side4 A25.out).mono ?_); (case side1 => refine (Kd.R_reads' (e := 5) (base := w.heap.size) (ok := fun k_ => (True ∧ some k_ ≠ (.slice Ao23 t229.length co23 : Value).ownBlock)) (n := t217.length) (c := co16) ?_).2.2; exact (by (with_reducible repeat (first | apply Kd.R_alloc | apply Kd.R_drewN | apply Kd.R_drew)); exact (Kd.R_mono (R7_ HO219.out BK235.out (by decide) _ _ _ _ _ _ _) (fun _ h_ => h_.1)))); (case side2 => exact (Kd.R_reads' HO219.out).2.1); (case side3 => refine (Kd.R_reads' (e := 40) (base := w.heap.size) (ok := fun k_ => (True ∧ some k_ ≠ (.slice Ao24 t232.length co24 : Value).ownBlock)) (n := t220.length) (c := co17) ?_).2.2; exact (by (with_reducible repeat (first | apply Kd.R_alloc | apply Kd.R_drewN | apply Kd.R_drew)); exact (Kd.R_mono (R7_ HO222.out BK235.out (by decide) _ _ _ _ _ _ _) (fun _ h_ => h_.1)))); (case side4 => exact (Kd.R_reads' HO222.out).2.1); rintro e w31 ⟨rfl, hb⟩; refine ⟨_, rfl, ?_⟩; have n0_ := Aside0.mk (Kd.R_below (by (with_reducible repeat (first | apply Kd.R_alloc | apply Kd.R_drewN | apply Kd.R_drew)); exact (Kd.R_mono (R7_ HO219.out BK235.out (by decide) _ _ _ _ _ _ _) (fun _ h_ => h_.1))) hb); have n1_ := Aside0.mk (Kd.R_below (by (with_reducible repeat (first | apply Kd.R_alloc | apply Kd.R_drewN | apply Kd.R_drew)); exact (Kd.R_mono (R7_ HO222.out BK235.out (by decide) _ _ _ _ _ _ _) (fun _ h_ => h_.1))) hb); have n2_ := Aside0.mk (Kd.R_below (by (with_reducible repeat (first | apply Kd.R_alloc | apply Kd.R_drewN | apply Kd.R_drew)); exact (Kd.R_mono (R7_ HO231.out BK235.out (by decide) _ _ _ _ _ _ _) (fun _ h_ => h_.1))) hb); have n3_ := Aside0.mk (Kd.R_below (by (with_reducible repeat (first | apply Kd.R_alloc | apply Kd.R_drewN | apply Kd.R_drew)); exact (Kd.R_mono (R7_ HO234.out BK235.out (by decide) _ _ _ _ _ _ _) (fun _ h_ => h_.1))) hb); have n4_ := bfb_ BK210 NB210_235 hb; have n5_ := bfb_ BK223 NB223_235 hb; have n6_ := Aside0.mk (blk_below (g := gb235) (o := .cells #[.int .i64 t224, .int .i64 t225, .bool t226, .int .i64 t227, .int .i64 t228, .slice Ao23 t229.length co23, .slice Ao24 t232.length co24] 27 (0, 0)) (by (with_reducible repeat (first | refine blk_drewN ?_ _ | refine blk_drew ?_ | refine blk_alloc ?_ _)); refine blk_put (cs := #[.int .i64 t224, .int .i64 t225, .bool t226, .int .i64 t227, .int .i64 t228, .slice Ao23 t229.length co23, .slice none 0 0]) ?_ 6 _ rfl; (with_reducible repeat (first | refine blk_drewN ?_ _ | refine blk_drew ?_ | refine blk_alloc ?_ _)); refine blk_put (cs := #[.int .i64 t224, .int .i64 t225, .bool t226, .int .i64 t227, .int .i64 t228, .slice none 0 0, .slice none 0 0]) ?_ 5 _ rfl; (with_reducible repeat (first | refine blk_drewN ?_ _ | refine blk_drew ?_ | refine blk_alloc ?_ _)); refine blk_put (cs := #[.int .i64 t224, .int .i64 t225, .bool t226, .int .i64 t227, .int .i64 0, .slice none 0 0, .slice none 0 0]) ?_ 4 _ rfl; (with_reducible repeat (first | refine blk_drewN ?_ _ | refine blk_drew ?_ | refine blk_alloc ?_ _)); refine blk_put (cs := #[.int .i64 t224, .int .i64 t225, .bool t226, .int .i64 0, .int .i64 0, .slice none 0 0, .slice none 0 0]) ?_ 3 _ rfl; (with_reducible repeat (first | refine blk_drewN ?_ _ | refine blk_drew ?_ | refine blk_alloc ?_ _)); refine blk_put (cs := #[.int .i64 t224, .int .i64 t225, .bool false, .int .i64 0, .int .i64 0, .slice none 0 0, .slice none 0 0]) ?_ 2 _ rfl; (with_reducible repeat (first | refine blk_drewN ?_ _ | refine blk_drew ?_ | refine blk_alloc ?_ _)); refine blk_put (cs := #[.int .i64 t224, .int .i64 0, .bool false, .int .i64 0, .int .i64 0, .slice none 0 0, .slice none 0 0]) ?_ 1 _ rfl; (with_reducible repeat (first | refine blk_drewN ?_ _ | refine blk_drew ?_ | refine blk_alloc ?_ _)); refine blk_put (cs := #[.int .i64 0, .int .i64 0, .bool false, .int .i64 0, .int .i64 0, .slice none 0 0, .slice none 0 0]) ?_ 0 _ rfl; (with_reducible repeat (first | refine blk_drewN ?_ _ | refine blk_drew ?_ | refine blk_alloc ?_ _)); exact BK235.out) hb); have n7_ := Aside0.mk (below_step (be_ HB) hb); clear HO219; clear HO222; clear HO231; clear HO234; clear BK210; clear BK223; clear BK235; clear HB; have HO219 := n0_; have HO222 := n1_; have HO231 := n2_; have HO234 := n3_; have BK210 := n4_; have BK223 := n5_; have BK235 := n6_; have HB := n7_; clear n0_ n1_ n2_ n3_ n4_ n5_ n6_ n7_; (try clear hb); (try clear hb2); (try clear hk); (try clear hi); have hnb32 := NB235_210.out; have hnc32 := NB210_235.out; have hcz33_0 : w31.cell? ⟨gb235, 0, none⟩ = some (.int .i64 t224) := (blk_cell BK235.out 0).trans rfl; have hcz33_1 : w31.cell? ⟨gb235, 1, none⟩ = some (.int .i64 t225) := (blk_cell BK235.out 1).trans rfl; have hcz33_2 : w31.cell? ⟨gb235, 2, none⟩ = some (.bool t226) := (blk_cell BK235.out 2).trans rfl; have hcz33_3 : w31.cell? ⟨gb235, 3, none⟩ = some (.int .i64 t227) := (blk_cell BK235.out 3).trans rfl; have hcz33_4 : w31.cell? ⟨gb235, 4, none⟩ = some (.int .i64 t228) := (blk_cell BK235.out 4).trans rfl; have hcz33_5 : w31.cell? ⟨gb235, 5, none⟩ = some (.slice Ao23 t229.length co23) := (blk_cell BK235.out 5).trans rfl; have hcz33_6 : w31.cell? ⟨gb235, 6, none⟩ = some (.slice Ao24 t232.length co24) := (blk_cell BK235.out 6).trans rfl; have hfz33_0 := blk_frozen BK235.out 0; have hfz33_1 := blk_frozen BK235.out 1; have hfz33_2 := blk_frozen BK235.out 2; have hfz33_3 := blk_frozen BK235.out 3; have hfz33_4 := blk_frozen BK235.out 4; have hfz33_5 := blk_frozen BK235.out 5; have hfz33_6 := blk_frozen BK235.out 6; have hcz34_0 : w31.cell? ⟨gb223, 0, none⟩ = some (.int .i64 t212) := (blk_cell BK223.out 0).trans rfl; have hcz34_1 : w31.cell? ⟨gb223, 1, none⟩ = some (.int .i64 t213) := (blk_cell BK223.out 1).trans rfl; have hcz34_2 : w31.cell? ⟨gb223, 2, none⟩ = some (.bool t214) := (blk_cell BK223.out 2).trans rfl; have hcz34_3 : w31.cell? ⟨gb223, 3, none⟩ = some (.int .i64 t215) := (blk_cell BK223.out 3).trans rfl; have hcz34_4 : w31.cell? ⟨gb223, 4, none⟩ = some (.int .i64 t216) := (blk_cell BK223.out 4).trans rfl; have hcz34_5 : w31.cell? ⟨gb223, 5, none⟩ = some (.slice Ao16 t217.length co16) := (blk_cell BK223.out 5).trans rfl; have hcz34_6 : w31.cell? ⟨gb223, 6, none⟩ = some (.slice Ao17 t220.length co17) := (blk_cell BK223.out 6).trans rfl; have hfz34_0 := blk_frozen BK223.out 0; have hfz34_1 := blk_frozen BK223.out 1; have hfz34_2 := blk_frozen BK223.out 2; have hfz34_3 := blk_frozen BK223.out 3; have hfz34_4 := blk_frozen BK223.out 4; have hfz34_5 := blk_frozen BK223.out 5; have hfz34_6 := blk_frozen BK223.out 6; have hcz35_0 : w31.cell? ⟨gb210, 0, none⟩ = some (.int .i64 a0_0) := (blk_cell BK210.out 0).trans rfl; have hcz35_1 : w31.cell? ⟨gb210, 1, none⟩ = some (.int .i64 a0_1) := (blk_cell BK210.out 1).trans rfl; have hcz35_2 : w31.cell? ⟨gb210, 2, none⟩ = some (.bool a0_2) := (blk_cell BK210.out 2).trans rfl; have hcz35_3 : w31.cell? ⟨gb210, 3, none⟩ = some (.int .i64 a0_3) := (blk_cell BK210.out 3).trans rfl; have hcz35_4 : w31.cell? ⟨gb210, 4, none⟩ = some (.int .i64 a0_4) := (blk_cell BK210.out 4).trans rfl; have hcz35_5 : w31.cell? ⟨gb210, 5, none⟩ = some (.slice A0_5 l0_5.length c0_5) := (blk_cell BK210.out 5).trans rfl; have hcz35_6 : w31.cell? ⟨gb210, 6, none⟩ = some (.slice A0_6 l0_6.length c0_6) := (blk_cell BK210.out 6).trans rfl; have hfz35_0 := blk_frozen BK210.out 0; have hfz35_1 := blk_frozen BK210.out 1; have hfz35_2 := blk_frozen BK210.out 2; have hfz35_3 := blk_frozen BK210.out 3; have hfz35_4 := blk_frozen BK210.out 4; have hfz35_5 := blk_frozen BK210.out 5; have hfz35_6 := blk_frozen BK210.out 6))
        go_meet
        case rel => exact ⟨_, (decide ((t220.length : Int) > (l0_6.length : Int))), (by first | rfl | (simp; done) | (simp [*]; done)), H', ⟨by first | omega | exact Nat.le_refl _⟩, ⟨by (with_reducible repeat (first | apply Kd.R_alloc | apply Kd.R_drewN | apply Kd.R_drew)); exact Kd.R_mono HO219.out (fun _ hk => hk.2)⟩, ⟨by (with_reducible repeat (first | apply Kd.R_alloc | apply Kd.R_drewN | apply Kd.R_drew)); exact Kd.R_mono HO222.out (fun _ hk => hk.2)⟩, ⟨by (with_reducible repeat (first | apply Kd.R_alloc | apply Kd.R_drewN | apply Kd.R_drew)); exact Kd.R_mono HO231.out (fun _ hk => hk.2)⟩, ⟨by (with_reducible repeat (first | apply Kd.R_alloc | apply Kd.R_drewN | apply Kd.R_drew)); exact Kd.R_mono HO234.out (fun _ hk => hk.2)⟩, ⟨bk_ BK210⟩, ⟨bk_ BK223⟩, ⟨bk_ BK235⟩, ⟨be_ HB⟩⟩
      rw [if_neg c27] at H
      have c27b0 : ((t232.length : Int) == (t220.length : Int)) = false := beq_eq_false_iff_ne.mpr c27
      have c27b1 : ((t232.length : Int) != (t220.length : Int)) = true := bne_iff_ne.mpr c27
      have c27b2 : (t232.length == t220.length) = false := by first | simpa using c27 | (simp at c27 ⊢; omega)
      have H' := Aside0.mk H
      clear H
      have hnb36 := NB223_210.out
      have hnc36 := NB210_223.out
      have hnb37 := NB223_235.out
      have hnc37 := NB235_223.out
      obtain ⟨hcz38_0, hcz38_1, hcz38_2, hcz38_3, hcz38_4, hcz38_5, hcz38_6⟩ := bc7_ BK223
      obtain ⟨hfz38_0, hfz38_1, hfz38_2, hfz38_3, hfz38_4, hfz38_5, hfz38_6⟩ := bz7_ BK223
      go_wp2_with (first | ((with_reducible refine gate_callee (f := 23) rfl ?_); refine goesL_ (some 20) rfl rfl Try.func23 (by kernel_rfl) rfl #[.agg #[.int .i64 t212, .int .i64 t213, .bool t214, .int .i64 t215, .int .i64 t216, .slice Ao16 t217.length co16, .slice Ao17 t220.length co17], .int .i64 a1] rfl (by (try simp only [List.map_toArray, List.map_cons, List.map_nil]); first | done | rfl | (simp only [List.length_drop, List.length_take]; rfl)) ?_; (with_reducible refine (budget_Course_Check.calls t212 t213 t214 t215 t216 _ _ t217 _ _ t220 a1 t236 _ ?side1 ?side2 ?side3 ?side4 A25.out).mono ?_); (case side1 => refine (Kd.R_reads' (e := 5) (base := w.heap.size) (ok := fun k_ => (True ∧ some k_ ≠ (.slice Ao23 t229.length co23 : Value).ownBlock)) (n := t217.length) (c := co16) ?_).2.2; exact (by (with_reducible repeat (first | apply Kd.R_alloc | apply Kd.R_drewN | apply Kd.R_drew)); exact (Kd.R_mono (R7_ HO219.out BK235.out (by decide) _ _ _ _ _ _ _) (fun _ h_ => h_.1)))); (case side2 => exact (Kd.R_reads' HO219.out).2.1); (case side3 => refine (Kd.R_reads' (e := 40) (base := w.heap.size) (ok := fun k_ => (True ∧ some k_ ≠ (.slice Ao24 t232.length co24 : Value).ownBlock)) (n := t220.length) (c := co17) ?_).2.2; exact (by (with_reducible repeat (first | apply Kd.R_alloc | apply Kd.R_drewN | apply Kd.R_drew)); exact (Kd.R_mono (R7_ HO222.out BK235.out (by decide) _ _ _ _ _ _ _) (fun _ h_ => h_.1)))); (case side4 => exact (Kd.R_reads' HO222.out).2.1); rintro e w39 ⟨rfl, hb⟩; refine ⟨_, rfl, ?_⟩; have n0_ := Aside0.mk (Kd.R_below (by (with_reducible repeat (first | apply Kd.R_alloc | apply Kd.R_drewN | apply Kd.R_drew)); exact (Kd.R_mono (R7_ HO219.out BK235.out (by decide) _ _ _ _ _ _ _) (fun _ h_ => h_.1))) hb); have n1_ := Aside0.mk (Kd.R_below (by (with_reducible repeat (first | apply Kd.R_alloc | apply Kd.R_drewN | apply Kd.R_drew)); exact (Kd.R_mono (R7_ HO222.out BK235.out (by decide) _ _ _ _ _ _ _) (fun _ h_ => h_.1))) hb); have n2_ := Aside0.mk (Kd.R_below (by (with_reducible repeat (first | apply Kd.R_alloc | apply Kd.R_drewN | apply Kd.R_drew)); exact (Kd.R_mono (R7_ HO231.out BK235.out (by decide) _ _ _ _ _ _ _) (fun _ h_ => h_.1))) hb); have n3_ := Aside0.mk (Kd.R_below (by (with_reducible repeat (first | apply Kd.R_alloc | apply Kd.R_drewN | apply Kd.R_drew)); exact (Kd.R_mono (R7_ HO234.out BK235.out (by decide) _ _ _ _ _ _ _) (fun _ h_ => h_.1))) hb); have n4_ := bfb_ BK210 NB210_235 hb; have n5_ := bfb_ BK223 NB223_235 hb; have n6_ := Aside0.mk (blk_below (g := gb235) (o := .cells #[.int .i64 t224, .int .i64 t225, .bool t226, .int .i64 t227, .int .i64 t228, .slice Ao23 t229.length co23, .slice Ao24 t232.length co24] 27 (0, 0)) (by (with_reducible repeat (first | refine blk_drewN ?_ _ | refine blk_drew ?_ | refine blk_alloc ?_ _)); refine blk_put (cs := #[.int .i64 t224, .int .i64 t225, .bool t226, .int .i64 t227, .int .i64 t228, .slice Ao23 t229.length co23, .slice none 0 0]) ?_ 6 _ rfl; (with_reducible repeat (first | refine blk_drewN ?_ _ | refine blk_drew ?_ | refine blk_alloc ?_ _)); refine blk_put (cs := #[.int .i64 t224, .int .i64 t225, .bool t226, .int .i64 t227, .int .i64 t228, .slice none 0 0, .slice none 0 0]) ?_ 5 _ rfl; (with_reducible repeat (first | refine blk_drewN ?_ _ | refine blk_drew ?_ | refine blk_alloc ?_ _)); refine blk_put (cs := #[.int .i64 t224, .int .i64 t225, .bool t226, .int .i64 t227, .int .i64 0, .slice none 0 0, .slice none 0 0]) ?_ 4 _ rfl; (with_reducible repeat (first | refine blk_drewN ?_ _ | refine blk_drew ?_ | refine blk_alloc ?_ _)); refine blk_put (cs := #[.int .i64 t224, .int .i64 t225, .bool t226, .int .i64 0, .int .i64 0, .slice none 0 0, .slice none 0 0]) ?_ 3 _ rfl; (with_reducible repeat (first | refine blk_drewN ?_ _ | refine blk_drew ?_ | refine blk_alloc ?_ _)); refine blk_put (cs := #[.int .i64 t224, .int .i64 t225, .bool false, .int .i64 0, .int .i64 0, .slice none 0 0, .slice none 0 0]) ?_ 2 _ rfl; (with_reducible repeat (first | refine blk_drewN ?_ _ | refine blk_drew ?_ | refine blk_alloc ?_ _)); refine blk_put (cs := #[.int .i64 t224, .int .i64 0, .bool false, .int .i64 0, .int .i64 0, .slice none 0 0, .slice none 0 0]) ?_ 1 _ rfl; (with_reducible repeat (first | refine blk_drewN ?_ _ | refine blk_drew ?_ | refine blk_alloc ?_ _)); refine blk_put (cs := #[.int .i64 0, .int .i64 0, .bool false, .int .i64 0, .int .i64 0, .slice none 0 0, .slice none 0 0]) ?_ 0 _ rfl; (with_reducible repeat (first | refine blk_drewN ?_ _ | refine blk_drew ?_ | refine blk_alloc ?_ _)); exact BK235.out) hb); have n7_ := Aside0.mk (below_step (be_ HB) hb); clear HO219; clear HO222; clear HO231; clear HO234; clear BK210; clear BK223; clear BK235; clear HB; have HO219 := n0_; have HO222 := n1_; have HO231 := n2_; have HO234 := n3_; have BK210 := n4_; have BK223 := n5_; have BK235 := n6_; have HB := n7_; clear n0_ n1_ n2_ n3_ n4_ n5_ n6_ n7_; (try clear hb); (try clear hb2); (try clear hk); (try clear hi); have hnb40 := NB235_210.out; have hnc40 := NB210_235.out; have hcz41_0 : w39.cell? ⟨gb235, 0, none⟩ = some (.int .i64 t224) := (blk_cell BK235.out 0).trans rfl; have hcz41_1 : w39.cell? ⟨gb235, 1, none⟩ = some (.int .i64 t225) := (blk_cell BK235.out 1).trans rfl; have hcz41_2 : w39.cell? ⟨gb235, 2, none⟩ = some (.bool t226) := (blk_cell BK235.out 2).trans rfl; have hcz41_3 : w39.cell? ⟨gb235, 3, none⟩ = some (.int .i64 t227) := (blk_cell BK235.out 3).trans rfl; have hcz41_4 : w39.cell? ⟨gb235, 4, none⟩ = some (.int .i64 t228) := (blk_cell BK235.out 4).trans rfl; have hcz41_5 : w39.cell? ⟨gb235, 5, none⟩ = some (.slice Ao23 t229.length co23) := (blk_cell BK235.out 5).trans rfl; have hcz41_6 : w39.cell? ⟨gb235, 6, none⟩ = some (.slice Ao24 t232.length co24) := (blk_cell BK235.out 6).trans rfl; have hfz41_0 := blk_frozen BK235.out 0; have hfz41_1 := blk_frozen BK235.out 1; have hfz41_2 := blk_frozen BK235.out 2; have hfz41_3 := blk_frozen BK235.out 3; have hfz41_4 := blk_frozen BK235.out 4; have hfz41_5 := blk_frozen BK235.out 5; have hfz41_6 := blk_frozen BK235.out 6; have hcz42_0 : w39.cell? ⟨gb223, 0, none⟩ = some (.int .i64 t212) := (blk_cell BK223.out 0).trans rfl; have hcz42_1 : w39.cell? ⟨gb223, 1, none⟩ = some (.int .i64 t213) := (blk_cell BK223.out 1).trans rfl; have hcz42_2 : w39.cell? ⟨gb223, 2, none⟩ = some (.bool t214) := (blk_cell BK223.out 2).trans rfl; have hcz42_3 : w39.cell? ⟨gb223, 3, none⟩ = some (.int .i64 t215) := (blk_cell BK223.out 3).trans rfl; have hcz42_4 : w39.cell? ⟨gb223, 4, none⟩ = some (.int .i64 t216) := (blk_cell BK223.out 4).trans rfl; have hcz42_5 : w39.cell? ⟨gb223, 5, none⟩ = some (.slice Ao16 t217.length co16) := (blk_cell BK223.out 5).trans rfl; have hcz42_6 : w39.cell? ⟨gb223, 6, none⟩ = some (.slice Ao17 t220.length co17) := (blk_cell BK223.out 6).trans rfl; have hfz42_0 := blk_frozen BK223.out 0; have hfz42_1 := blk_frozen BK223.out 1; have hfz42_2 := blk_frozen BK223.out 2; have hfz42_3 := blk_frozen BK223.out 3; have hfz42_4 := blk_frozen BK223.out 4; have hfz42_5 := blk_frozen BK223.out 5; have hfz42_6 := blk_frozen BK223.out 6))
      go_meet
      case rel => exact ⟨_, (true), (by first | rfl | (simp; done) | (simp [*]; done)), H', ⟨by first | omega | exact Nat.le_refl _⟩, ⟨by (with_reducible repeat (first | apply Kd.R_alloc | apply Kd.R_drewN | apply Kd.R_drew)); exact Kd.R_mono HO219.out (fun _ hk => hk.2)⟩, ⟨by (with_reducible repeat (first | apply Kd.R_alloc | apply Kd.R_drewN | apply Kd.R_drew)); exact Kd.R_mono HO222.out (fun _ hk => hk.2)⟩, ⟨by (with_reducible repeat (first | apply Kd.R_alloc | apply Kd.R_drewN | apply Kd.R_drew)); exact Kd.R_mono HO231.out (fun _ hk => hk.2)⟩, ⟨by (with_reducible repeat (first | apply Kd.R_alloc | apply Kd.R_drewN | apply Kd.R_drew)); exact Kd.R_mono HO234.out (fun _ hk => hk.2)⟩, ⟨bk_ BK210⟩, ⟨bk_ BK223⟩, ⟨bk_ BK235⟩, ⟨be_ HB⟩⟩
    rw [if_neg c26] at H
    have c26b0 : (t236 == 0) = false := beq_eq_false_iff_ne.mpr c26
    have c26b1 : (t236 != 0) = true := bne_iff_ne.mpr c26
    (first | rw [c26b0] | (simp only [i64_w, i32_w]; rw [c26b0]) | rw [c26b1] | skip)
    have H' := Aside0.mk H
    clear H
    have hnb43 := NB223_210.out
    have hnc43 := NB210_223.out
    have hnb44 := NB223_235.out
    have hnc44 := NB235_223.out
    obtain ⟨hcz45_0, hcz45_1, hcz45_2, hcz45_3, hcz45_4, hcz45_5, hcz45_6⟩ := bc7_ BK223
    obtain ⟨hfz45_0, hfz45_1, hfz45_2, hfz45_3, hfz45_4, hfz45_5, hfz45_6⟩ := bz7_ BK223
    go_wp2_with (first | ((with_reducible refine gate_callee (f := 23) rfl ?_); refine goesL_ (some 20) rfl rfl Try.func23 (by kernel_rfl) rfl #[.agg #[.int .i64 t212, .int .i64 t213, .bool t214, .int .i64 t215, .int .i64 t216, .slice Ao16 t217.length co16, .slice Ao17 t220.length co17], .int .i64 a1] rfl (by (try simp only [List.map_toArray, List.map_cons, List.map_nil]); first | done | rfl | (simp only [List.length_drop, List.length_take]; rfl)) ?_; (with_reducible refine (budget_Course_Check.calls t212 t213 t214 t215 t216 _ _ t217 _ _ t220 a1 t236 _ ?side1 ?side2 ?side3 ?side4 A25.out).mono ?_); (case side1 => refine (Kd.R_reads' (e := 5) (base := w.heap.size) (ok := fun k_ => (True ∧ some k_ ≠ (.slice Ao23 t229.length co23 : Value).ownBlock)) (n := t217.length) (c := co16) ?_).2.2; exact (by (with_reducible repeat (first | apply Kd.R_alloc | apply Kd.R_drewN | apply Kd.R_drew)); exact (Kd.R_mono (R7_ HO219.out BK235.out (by decide) _ _ _ _ _ _ _) (fun _ h_ => h_.1)))); (case side2 => exact (Kd.R_reads' HO219.out).2.1); (case side3 => refine (Kd.R_reads' (e := 40) (base := w.heap.size) (ok := fun k_ => (True ∧ some k_ ≠ (.slice Ao24 t232.length co24 : Value).ownBlock)) (n := t220.length) (c := co17) ?_).2.2; exact (by (with_reducible repeat (first | apply Kd.R_alloc | apply Kd.R_drewN | apply Kd.R_drew)); exact (Kd.R_mono (R7_ HO222.out BK235.out (by decide) _ _ _ _ _ _ _) (fun _ h_ => h_.1)))); (case side4 => exact (Kd.R_reads' HO222.out).2.1); rintro e w46 ⟨rfl, hb⟩; refine ⟨_, rfl, ?_⟩; have n0_ := Aside0.mk (Kd.R_below (by (with_reducible repeat (first | apply Kd.R_alloc | apply Kd.R_drewN | apply Kd.R_drew)); exact (Kd.R_mono (R7_ HO219.out BK235.out (by decide) _ _ _ _ _ _ _) (fun _ h_ => h_.1))) hb); have n1_ := Aside0.mk (Kd.R_below (by (with_reducible repeat (first | apply Kd.R_alloc | apply Kd.R_drewN | apply Kd.R_drew)); exact (Kd.R_mono (R7_ HO222.out BK235.out (by decide) _ _ _ _ _ _ _) (fun _ h_ => h_.1))) hb); have n2_ := Aside0.mk (Kd.R_below (by (with_reducible repeat (first | apply Kd.R_alloc | apply Kd.R_drewN | apply Kd.R_drew)); exact (Kd.R_mono (R7_ HO231.out BK235.out (by decide) _ _ _ _ _ _ _) (fun _ h_ => h_.1))) hb); have n3_ := Aside0.mk (Kd.R_below (by (with_reducible repeat (first | apply Kd.R_alloc | apply Kd.R_drewN | apply Kd.R_drew)); exact (Kd.R_mono (R7_ HO234.out BK235.out (by decide) _ _ _ _ _ _ _) (fun _ h_ => h_.1))) hb); have n4_ := bfb_ BK210 NB210_235 hb; have n5_ := bfb_ BK223 NB223_235 hb; have n6_ := Aside0.mk (blk_below (g := gb235) (o := .cells #[.int .i64 t224, .int .i64 t225, .bool t226, .int .i64 t227, .int .i64 t228, .slice Ao23 t229.length co23, .slice Ao24 t232.length co24] 27 (0, 0)) (by (with_reducible repeat (first | refine blk_drewN ?_ _ | refine blk_drew ?_ | refine blk_alloc ?_ _)); refine blk_put (cs := #[.int .i64 t224, .int .i64 t225, .bool t226, .int .i64 t227, .int .i64 t228, .slice Ao23 t229.length co23, .slice none 0 0]) ?_ 6 _ rfl; (with_reducible repeat (first | refine blk_drewN ?_ _ | refine blk_drew ?_ | refine blk_alloc ?_ _)); refine blk_put (cs := #[.int .i64 t224, .int .i64 t225, .bool t226, .int .i64 t227, .int .i64 t228, .slice none 0 0, .slice none 0 0]) ?_ 5 _ rfl; (with_reducible repeat (first | refine blk_drewN ?_ _ | refine blk_drew ?_ | refine blk_alloc ?_ _)); refine blk_put (cs := #[.int .i64 t224, .int .i64 t225, .bool t226, .int .i64 t227, .int .i64 0, .slice none 0 0, .slice none 0 0]) ?_ 4 _ rfl; (with_reducible repeat (first | refine blk_drewN ?_ _ | refine blk_drew ?_ | refine blk_alloc ?_ _)); refine blk_put (cs := #[.int .i64 t224, .int .i64 t225, .bool t226, .int .i64 0, .int .i64 0, .slice none 0 0, .slice none 0 0]) ?_ 3 _ rfl; (with_reducible repeat (first | refine blk_drewN ?_ _ | refine blk_drew ?_ | refine blk_alloc ?_ _)); refine blk_put (cs := #[.int .i64 t224, .int .i64 t225, .bool false, .int .i64 0, .int .i64 0, .slice none 0 0, .slice none 0 0]) ?_ 2 _ rfl; (with_reducible repeat (first | refine blk_drewN ?_ _ | refine blk_drew ?_ | refine blk_alloc ?_ _)); refine blk_put (cs := #[.int .i64 t224, .int .i64 0, .bool false, .int .i64 0, .int .i64 0, .slice none 0 0, .slice none 0 0]) ?_ 1 _ rfl; (with_reducible repeat (first | refine blk_drewN ?_ _ | refine blk_drew ?_ | refine blk_alloc ?_ _)); refine blk_put (cs := #[.int .i64 0, .int .i64 0, .bool false, .int .i64 0, .int .i64 0, .slice none 0 0, .slice none 0 0]) ?_ 0 _ rfl; (with_reducible repeat (first | refine blk_drewN ?_ _ | refine blk_drew ?_ | refine blk_alloc ?_ _)); exact BK235.out) hb); have n7_ := Aside0.mk (below_step (be_ HB) hb); clear HO219; clear HO222; clear HO231; clear HO234; clear BK210; clear BK223; clear BK235; clear HB; have HO219 := n0_; have HO222 := n1_; have HO231 := n2_; have HO234 := n3_; have BK210 := n4_; have BK223 := n5_; have BK235 := n6_; have HB := n7_; clear n0_ n1_ n2_ n3_ n4_ n5_ n6_ n7_; (try clear hb); (try clear hb2); (try clear hk); (try clear hi)))
    go_meet
    case rel => exact ⟨_, (true), (by first | rfl | (simp; done) | (simp [*]; done)), H', ⟨by first | omega | exact Nat.le_refl _⟩, ⟨by (with_reducible repeat (first | apply Kd.R_alloc | apply Kd.R_drewN | apply Kd.R_drew)); exact Kd.R_mono HO219.out (fun _ hk => hk.2)⟩, ⟨by (with_reducible repeat (first | apply Kd.R_alloc | apply Kd.R_drewN | apply Kd.R_drew)); exact Kd.R_mono HO222.out (fun _ hk => hk.2)⟩, ⟨by (with_reducible repeat (first | apply Kd.R_alloc | apply Kd.R_drewN | apply Kd.R_drew)); exact Kd.R_mono HO231.out (fun _ hk => hk.2)⟩, ⟨by (with_reducible repeat (first | apply Kd.R_alloc | apply Kd.R_drewN | apply Kd.R_drew)); exact Kd.R_mono HO234.out (fun _ hk => hk.2)⟩, ⟨bk_ BK210⟩, ⟨bk_ BK223⟩, ⟨bk_ BK235⟩, ⟨be_ HB⟩⟩
   clear HC7
   try clear c4
   obtain ⟨kq, x39_6, rfl, HA, HJ6, HO_224005, HO_224006, HO_236005, HO_236006, BK210, BK223, BK235, HB⟩ := hcut
   cases kq with
   | zero => exact absurd HA.out (by simp [busbarlaw21_BudgetFits.j0])
   | succ kj6 =>
    have H := HA.out
    clear HA
    simp only [busbarlaw21_BudgetFits.j0] at H
    by_cases c47 : x39_6 = true
    · subst c47
      have H1 : (some false) = some r := by rw [if_pos rfl] at H; exact H
      clear H
      have H := H1
      clear H1
      obtain rfl := Option.some.inj H
      go_wp2
      go_ret
      exact ⟨by first | rfl | (simp [errW_none, errW_some] <;> rfl) | (simp [*, errW_none, errW_some] <;> rfl), be_ HB⟩
    replace c47 := Bool.eq_false_iff.mpr c47
    subst c47
    have H1 : (busbarlaw21_BudgetFits.l0 kj6 a1 0 a0_0 a0_1 a0_2 a0_3 a0_4 l0_5 l0_6 t212 t213 t214 t215 t216 t217 t220 t224 t225 t226 t227 t228 t229 t232) = some r := by rw [if_neg (show ¬ (false = true) by decide)] at H; exact H
    clear H
    have H := H1
    clear H1
    have H' := Aside0.mk H
    clear H
    go_wp2
    go_loopg [7] kj6 (fun kq v7 w' => ∃ (x7_2 : Int), v7 = .int .i64 x7_2 ∧ Aside0 (busbarlaw21_BudgetFits.l0 kq a1 x7_2 a0_0 a0_1 a0_2 a0_3 a0_4 l0_5 l0_6 t212 t213 t214 t215 t216 t217 t220 t224 t225 t226 t227 t228 t229 t232 = some r) ∧ Aside0 (kq ≤ kj6) ∧ Aside0 (Kd.R (Kd.int .u8) 5 w' w.heap.size (fun k_ => some k_ ≠ ((.slice Ao23 t229.length co23) : Value).ownBlock) (.slice Ao16 t217.length co16) t217) ∧ Aside0 (Kd.R k40 40 w' w.heap.size (fun k_ => some k_ ≠ ((.slice Ao24 t232.length co24) : Value).ownBlock) (.slice Ao17 t220.length co17) t220) ∧ Aside0 (Kd.R (Kd.int .u8) 5 w' w.heap.size (fun k_ => some k_ ≠ ((.slice Ao16 t217.length co16) : Value).ownBlock) (.slice Ao23 t229.length co23) t229) ∧ Aside0 (Kd.R k40 40 w' w.heap.size (fun k_ => some k_ ≠ ((.slice Ao17 t220.length co17) : Value).ownBlock) (.slice Ao24 t232.length co24) t232) ∧ Aside0 (w'.heap[gb210]? = some (.cells #[.int .i64 a0_0, .int .i64 a0_1, .bool a0_2, .int .i64 a0_3, .int .i64 a0_4, (.slice A0_5 l0_5.length c0_5), (.slice A0_6 l0_6.length c0_6)] 27 (0, 0))) ∧ Aside0 (w'.heap[gb223]? = some (.cells #[.int .i64 t212, .int .i64 t213, .bool t214, .int .i64 t215, .int .i64 t216, (.slice Ao16 t217.length co16), (.slice Ao17 t220.length co17)] 27 (0, 0))) ∧ Aside0 (w'.heap[gb235]? = some (.cells #[.int .i64 t224, .int .i64 t225, .bool t226, .int .i64 t227, .int .i64 t228, (.slice Ao23 t229.length co23), (.slice Ao24 t232.length co24)] 27 (0, 0))) ∧ Aside0 (Below w.heap.size w w'))
    case atStart => exact ⟨(0), (by first | rfl | (simp; done) | (simp [*]; done)), H', ⟨Nat.le_refl _⟩, ⟨rk_ HO_224005⟩, ⟨rk_ HO_224006⟩, ⟨rk_ HO_236005⟩, ⟨rk_ HO_236006⟩, ⟨bk_ BK210⟩, ⟨bk_ BK223⟩, ⟨bk_ BK235⟩, ⟨be_ HB⟩⟩
    case round =>
     clear H'
     try clear c4
     try clear c47
     obtain ⟨x7_2, rfl, HA, HK2, HO_224005, HO_224006, HO_236005, HO_236006, BK210, BK223, BK235, HB⟩ := hrel
     cases gk with
     | zero => exact absurd HA.out (by simp [busbarlaw21_BudgetFits.l0])
     | succ k2 =>
      have H := HA.out
      clear HA
      simp only [busbarlaw21_BudgetFits.l0] at H
      by_cases c48 : x7_2 < (t220.length : Int)
      · rw [if_pos c48] at H
        have c48b0 : decide (x7_2 < (t220.length : Int)) = true := decide_eq_true c48
        clear c48
        by_cases c49 : 0 ≤ x7_2
        · rw [if_pos c49] at H
          have c49b0 : decide (0 ≤ x7_2) = true := decide_eq_true c49
          clear c49
          by_cases c50 : x7_2 < (t232.length : Int)
          · rw [if_pos c50] at H
            have c50b0 : decide (x7_2 < (t232.length : Int)) = true := decide_eq_true c50
            clear c50
            by_cases c51 : (!(((rd_T40 t220 x7_2).f0) == ((rd_T40 t232 x7_2).f0)) || (!(((rd_T40 t220 x7_2).f1) == ((rd_T40 t232 x7_2).f1)) || (!(((rd_T40 t220 x7_2).f2) == ((rd_T40 t232 x7_2).f2)) || (!(((rd_T40 t220 x7_2).f3) == ((rd_T40 t232 x7_2).f3)))))) = true
            · rw [if_pos c51] at H
              have c51b0 : (!(((rd_T40 t220 x7_2).f0) == ((rd_T40 t232 x7_2).f0)) || (!(((rd_T40 t220 x7_2).f1) == ((rd_T40 t232 x7_2).f1)) || (!(((rd_T40 t220 x7_2).f2) == ((rd_T40 t232 x7_2).f2)) || (!(((rd_T40 t220 x7_2).f3) == ((rd_T40 t232 x7_2).f3)))))) = true := c51
              clear c51
              obtain rfl := Option.some.inj H
              have hnb52 := NB223_210.out
              have hnc52 := NB210_223.out
              have hnb53 := NB223_235.out
              have hnc53 := NB235_223.out
              obtain ⟨hcz54_0, hcz54_1, hcz54_2, hcz54_3, hcz54_4, hcz54_5, hcz54_6⟩ := bc7_ BK223
              obtain ⟨hfz54_0, hfz54_1, hfz54_2, hfz54_3, hfz54_4, hfz54_5, hfz54_6⟩ := bz7_ BK223
              try go_wp2
              have n0_ := Aside0.mk (Kd.R_drew HO_224005.out)
              have n1_ := Aside0.mk (Kd.R_drew HO_224006.out)
              have n2_ := Aside0.mk (Kd.R_drew HO_236005.out)
              have n3_ := Aside0.mk (Kd.R_drew HO_236006.out)
              have n4_ := Aside0.mk (blk_drew BK210.out)
              have n5_ := Aside0.mk (blk_drew BK223.out)
              have n6_ := Aside0.mk (blk_drew BK235.out)
              have n7_ := Aside0.mk (below_drew1 HB.out)
              clear HO_224005
              clear HO_224006
              clear HO_236005
              clear HO_236006
              clear BK210
              clear BK223
              clear BK235
              clear HB
              have HO_224005 := n0_
              have HO_224006 := n1_
              have HO_236005 := n2_
              have HO_236006 := n3_
              have BK210 := n4_
              have BK223 := n5_
              have BK235 := n6_
              have HB := n7_
              clear n0_ n1_ n2_ n3_ n4_ n5_ n6_ n7_
              have p237 : 0 ≤ (x7_2 : Int) := of_decide_eq_true (by first | (with_reducible assumption) | assumption)
              have q237 : x7_2 < (t220.length : Int) := of_decide_eq_true (by first | (with_reducible assumption) | assumption)
              obtain ⟨ad237, e237, hx237_0, hx237_1, hx237_2, hx237_3⟩ := at_T40 (Kd.R_reads' HO_224006.out).2.2 x7_2 p237 q237
              cases e237
              replace p237 := eq_true p237
              replace q237 := eq_true q237
              have p238 : 0 ≤ (x7_2 : Int) := of_decide_eq_true (by first | (with_reducible assumption) | assumption)
              have q238 : x7_2 < (t232.length : Int) := of_decide_eq_true (by first | (with_reducible assumption) | assumption)
              obtain ⟨ad238, e238, hx238_0, hx238_1, hx238_2, hx238_3⟩ := at_T40 (Kd.R_reads' HO_236006.out).2.2 x7_2 p238 q238
              cases e238
              replace p238 := eq_true p238
              replace q238 := eq_true q238
              refine start_ (n := 11) (S := fun w' => w'.cell? ⟨gb223, 0, none⟩ = some (.int .i64 t212) ∧ w'.cell? ⟨gb223, 1, none⟩ = some (.int .i64 t213) ∧ w'.cell? ⟨gb223, 2, none⟩ = some (.bool t214) ∧ w'.cell? ⟨gb223, 3, none⟩ = some (.int .i64 t215) ∧ w'.cell? ⟨gb223, 4, none⟩ = some (.int .i64 t216) ∧ w'.cell? ⟨gb223, 5, none⟩ = some (.slice Ao16 t217.length co16) ∧ w'.cell? ⟨gb223, 6, none⟩ = some (.slice (some ad237) t220.length co17) ∧ w'.cell? ⟨gb235, 0, none⟩ = some (.int .i64 t224) ∧ w'.cell? ⟨gb235, 1, none⟩ = some (.int .i64 t225) ∧ w'.cell? ⟨gb235, 2, none⟩ = some (.bool t226) ∧ w'.cell? ⟨gb235, 3, none⟩ = some (.int .i64 t227) ∧ w'.cell? ⟨gb235, 4, none⟩ = some (.int .i64 t228) ∧ w'.cell? ⟨gb235, 5, none⟩ = some (.slice Ao23 t229.length co23) ∧ w'.cell? ⟨gb235, 6, none⟩ = some (.slice (some ad238) t232.length co24) ∧ w'.cell? (ad237.add ((x7_2).toNat * 4)) = some (.int .i64 ((rd_T40 t220 x7_2).f0)) ∧ w'.cell? ⟨(ad237.add ((x7_2).toNat * 4)).block, (ad237.add ((x7_2).toNat * 4)).off + 1, none⟩ = some (.bool ((rd_T40 t220 x7_2).f1)) ∧ w'.cell? ⟨(ad237.add ((x7_2).toNat * 4)).block, (ad237.add ((x7_2).toNat * 4)).off + 2, none⟩ = some (.int .i64 ((rd_T40 t220 x7_2).f2)) ∧ w'.cell? ⟨(ad237.add ((x7_2).toNat * 4)).block, (ad237.add ((x7_2).toNat * 4)).off + 3, none⟩ = some (.int .i64 ((rd_T40 t220 x7_2).f3)) ∧ w'.cell? (ad238.add ((x7_2).toNat * 4)) = some (.int .i64 ((rd_T40 t232 x7_2).f0)) ∧ w'.cell? ⟨(ad238.add ((x7_2).toNat * 4)).block, (ad238.add ((x7_2).toNat * 4)).off + 1, none⟩ = some (.bool ((rd_T40 t232 x7_2).f1)) ∧ w'.cell? ⟨(ad238.add ((x7_2).toNat * 4)).block, (ad238.add ((x7_2).toNat * 4)).off + 2, none⟩ = some (.int .i64 ((rd_T40 t232 x7_2).f2)) ∧ w'.cell? ⟨(ad238.add ((x7_2).toNat * 4)).block, (ad238.add ((x7_2).toNat * 4)).off + 3, none⟩ = some (.int .i64 ((rd_T40 t232 x7_2).f3))) (ds := []) #[false, false, false, false, false, false, false, false, false, false, false] (by kernel_rfl) rfl rfl ⟨(blk_cell BK223.out 0).trans rfl, (blk_cell BK223.out 1).trans rfl, (blk_cell BK223.out 2).trans rfl, (blk_cell BK223.out 3).trans rfl, (blk_cell BK223.out 4).trans rfl, (blk_cell BK223.out 5).trans rfl, (blk_cell BK223.out 6).trans rfl, (blk_cell BK235.out 0).trans rfl, (blk_cell BK235.out 1).trans rfl, (blk_cell BK235.out 2).trans rfl, (blk_cell BK235.out 3).trans rfl, (blk_cell BK235.out 4).trans rfl, (blk_cell BK235.out 5).trans rfl, (blk_cell BK235.out 6).trans rfl, hx237_0, hx237_1, hx237_2, hx237_3, hx238_0, hx238_1, hx238_2, hx238_3⟩ (fun hHeld => ?_); refine with_tabW busbarlaw21_BudgetFits.tab10 busbarlaw21_BudgetFits.bits10 (fun HT_ HW_ => ?_)
              generalize wr.drew = w55 at HO_224005 HO_224006 HO_236005 HO_236006 BK210 BK223 BK235 HB hx237_0 hx237_1 hx237_2 hx237_3 hx238_0 hx238_1 hx238_2 hx238_3 hHeld ⊢
              refine pure_ (i := 0) (N := some 47) (v := ?_) (a' := ?_) #[true, false, false, false, false, false, false, false, false, false, false] rfl rfl (any_of HT_.out (by kernel_rfl)) (fun _ _ _ h => h) (Or.inl ⟨by rfl, ?_⟩) ?_ ?_
              rotate_left
              · intro w'
                go_simp
                with_reducible rfl
              rotate_left
              · simp only [Act.put, List.setIfInBounds_toArray, List.set_cons_zero, List.set_cons_succ, i64_w, i32_w]
                rfl
              refine pure_ (i := 2) (N := some 49) (v := ?_) (a' := ?_) #[true, false, true, false, false, false, false, false, false, false, false] rfl rfl (any_of HT_.out (by kernel_rfl)) (fun _ _ _ h => h) (Or.inl ⟨by rfl, ?_⟩) ?_ ?_
              rotate_left
              · intro w'
                go_simp
                with_reducible rfl
              rotate_left
              · simp only [Act.put, List.setIfInBounds_toArray, List.set_cons_zero, List.set_cons_succ, i64_w, i32_w]
                rfl
              refine pure_ (i := 5) (N := some 52) (v := ?_) (a' := ?_) #[true, false, true, false, false, true, false, false, false, false, false] rfl rfl (any_of HT_.out (by kernel_rfl)) (fun _ _ _ h => h) (Or.inl ⟨by rfl, ?_⟩) ?_ ?_
              rotate_left
              · intro w'
                go_simp
                with_reducible rfl
              rotate_left
              · simp only [Act.put, List.setIfInBounds_toArray, List.set_cons_zero, List.set_cons_succ, i64_w, i32_w]
                rfl
              refine pure_ (i := 7) (N := some 54) (v := ?_) (a' := ?_) #[true, false, true, false, false, true, false, true, false, false, false] rfl rfl (any_of HT_.out (by kernel_rfl)) (fun _ _ _ h => h) (Or.inl ⟨by rfl, ?_⟩) ?_ ?_
              rotate_left
              · intro w'
                go_simp
                with_reducible rfl
              rotate_left
              · simp only [Act.put, List.setIfInBounds_toArray, List.set_cons_zero, List.set_cons_succ, i64_w, i32_w]
                rfl
              refine take_ (i := 1) (N := some 48) (v := ?_) (a' := ?_) #[true, true, true, false, false, true, false, true, false, false, false] rfl rfl (take_ofW HT_.out HW_.out (by kernel_rfl)) (fun _ _ _ h => h) (Or.inl ⟨by rfl, ?_⟩) hHeld ?_ ?_
              rotate_left
              · rintro w' ⟨s0, s1, s2, s3, s4, s5, s6, s7, s8, s9, s10, s11, s12, s13, s14, s15, s16, s17, s18, s19, s20, s21⟩
                go_simp
                with_reducible rfl
              rotate_left
              · simp only [Act.put, List.setIfInBounds_toArray, List.set_cons_zero, List.set_cons_succ, i64_w, i32_w]
                rfl
              refine pure_ (i := 3) (N := some 50) (v := ?_) (a' := ?_) #[true, true, true, true, false, true, false, true, false, false, false] rfl rfl (any_of HT_.out (by kernel_rfl)) (fun _ _ _ h => h) (Or.inl ⟨by rfl, ?_⟩) ?_ ?_
              rotate_left
              · intro w'
                go_simp
                with_reducible rfl
              rotate_left
              · simp only [Act.put, List.setIfInBounds_toArray, List.set_cons_zero, List.set_cons_succ, i64_w, i32_w]
                rfl
              refine take_ (i := 4) (N := some 51) (v := ?_) (a' := ?_) #[true, true, true, true, true, true, false, true, false, false, false] rfl rfl (take_ofW HT_.out HW_.out (by kernel_rfl)) (fun _ _ _ h => h) (Or.inl ⟨by rfl, ?_⟩) hHeld ?_ ?_
              rotate_left
              · rintro w' ⟨s0, s1, s2, s3, s4, s5, s6, s7, s8, s9, s10, s11, s12, s13, s14, s15, s16, s17, s18, s19, s20, s21⟩
                go_simp
                with_reducible rfl
              rotate_left
              · simp only [Act.put, List.setIfInBounds_toArray, List.set_cons_zero, List.set_cons_succ, i64_w, i32_w]
                rfl
              refine take_ (i := 6) (N := some 53) (v := ?_) (a' := ?_) #[true, true, true, true, true, true, true, true, false, false, false] rfl rfl (take_ofW HT_.out HW_.out (by kernel_rfl)) (fun _ _ _ h => h) (Or.inl ⟨by rfl, ?_⟩) hHeld ?_ ?_
              rotate_left
              · rintro w' ⟨s0, s1, s2, s3, s4, s5, s6, s7, s8, s9, s10, s11, s12, s13, s14, s15, s16, s17, s18, s19, s20, s21⟩
                go_simp
                with_reducible rfl
              rotate_left
              · simp only [Act.put, List.setIfInBounds_toArray, List.set_cons_zero, List.set_cons_succ, i64_w, i32_w]
                rfl
              refine pure_ (i := 8) (N := some 55) (v := ?_) (a' := ?_) #[true, true, true, true, true, true, true, true, true, false, false] rfl rfl (any_of HT_.out (by kernel_rfl)) (fun _ _ _ h => h) (Or.inl ⟨by rfl, ?_⟩) ?_ ?_
              rotate_left
              · intro w'
                go_simp
                with_reducible rfl
              rotate_left
              · simp only [Act.put, List.setIfInBounds_toArray, List.set_cons_zero, List.set_cons_succ, i64_w, i32_w]
                rfl
              refine take_ (i := 9) (N := some 56) (v := ?_) (a' := ?_) #[true, true, true, true, true, true, true, true, true, true, false] rfl rfl (take_ofW HT_.out HW_.out (by kernel_rfl)) (fun _ _ _ h => h) (Or.inl ⟨by rfl, ?_⟩) hHeld ?_ ?_
              rotate_left
              · rintro w' ⟨s0, s1, s2, s3, s4, s5, s6, s7, s8, s9, s10, s11, s12, s13, s14, s15, s16, s17, s18, s19, s20, s21⟩
                go_simp
                with_reducible rfl
              rotate_left
              · simp only [Act.put, List.setIfInBounds_toArray, List.set_cons_zero, List.set_cons_succ, i64_w, i32_w]
                rfl
              refine pure_ (i := 10) (N := some 57) (v := ?_) (a' := ?_) #[true, true, true, true, true, true, true, true, true, true, true] rfl rfl (any_of HT_.out (by kernel_rfl)) (fun _ _ _ h => h) (Or.inl ⟨by rfl, ?_⟩) ?_ ?_
              rotate_left
              · intro w'
                go_simp
                with_reducible rfl
              rotate_left
              · simp only [Act.put, List.setIfInBounds_toArray, List.set_cons_zero, List.set_cons_succ, i64_w, i32_w]
                rfl
              refine done_ (done_of HT_.out (by kernel_rfl)) ?_
              try go_wp2
              go_ret
              exact ⟨by first | rfl | (simp [errW_none, errW_some] <;> rfl) | (simp [*, errW_none, errW_some] <;> rfl), be_ HB⟩
            rw [if_neg c51] at H
            have c51b0 : (!(((rd_T40 t220 x7_2).f0) == ((rd_T40 t232 x7_2).f0)) || (!(((rd_T40 t220 x7_2).f1) == ((rd_T40 t232 x7_2).f1)) || (!(((rd_T40 t220 x7_2).f2) == ((rd_T40 t232 x7_2).f2)) || (!(((rd_T40 t220 x7_2).f3) == ((rd_T40 t232 x7_2).f3)))))) = false := by simpa using c51
            clear c51
            have H' := Aside0.mk H
            clear H
            have hnb56 := NB223_210.out
            have hnc56 := NB210_223.out
            have hnb57 := NB223_235.out
            have hnc57 := NB235_223.out
            obtain ⟨hcz58_0, hcz58_1, hcz58_2, hcz58_3, hcz58_4, hcz58_5, hcz58_6⟩ := bc7_ BK223
            obtain ⟨hfz58_0, hfz58_1, hfz58_2, hfz58_3, hfz58_4, hfz58_5, hfz58_6⟩ := bz7_ BK223
            try go_wp2
            have n0_ := Aside0.mk (Kd.R_drew HO_224005.out)
            have n1_ := Aside0.mk (Kd.R_drew HO_224006.out)
            have n2_ := Aside0.mk (Kd.R_drew HO_236005.out)
            have n3_ := Aside0.mk (Kd.R_drew HO_236006.out)
            have n4_ := Aside0.mk (blk_drew BK210.out)
            have n5_ := Aside0.mk (blk_drew BK223.out)
            have n6_ := Aside0.mk (blk_drew BK235.out)
            have n7_ := Aside0.mk (below_drew1 HB.out)
            clear HO_224005
            clear HO_224006
            clear HO_236005
            clear HO_236006
            clear BK210
            clear BK223
            clear BK235
            clear HB
            have HO_224005 := n0_
            have HO_224006 := n1_
            have HO_236005 := n2_
            have HO_236006 := n3_
            have BK210 := n4_
            have BK223 := n5_
            have BK235 := n6_
            have HB := n7_
            clear n0_ n1_ n2_ n3_ n4_ n5_ n6_ n7_
            have p237 : 0 ≤ (x7_2 : Int) := of_decide_eq_true (by first | (with_reducible assumption) | assumption)
            have q237 : x7_2 < (t220.length : Int) := of_decide_eq_true (by first | (with_reducible assumption) | assumption)
            obtain ⟨ad237, e237, hx237_0, hx237_1, hx237_2, hx237_3⟩ := at_T40 (Kd.R_reads' HO_224006.out).2.2 x7_2 p237 q237
            cases e237
            replace p237 := eq_true p237
            replace q237 := eq_true q237
            have p238 : 0 ≤ (x7_2 : Int) := of_decide_eq_true (by first | (with_reducible assumption) | assumption)
            have q238 : x7_2 < (t232.length : Int) := of_decide_eq_true (by first | (with_reducible assumption) | assumption)
            obtain ⟨ad238, e238, hx238_0, hx238_1, hx238_2, hx238_3⟩ := at_T40 (Kd.R_reads' HO_236006.out).2.2 x7_2 p238 q238
            cases e238
            replace p238 := eq_true p238
            replace q238 := eq_true q238
            refine start_ (n := 11) (S := fun w' => w'.cell? ⟨gb223, 0, none⟩ = some (.int .i64 t212) ∧ w'.cell? ⟨gb223, 1, none⟩ = some (.int .i64 t213) ∧ w'.cell? ⟨gb223, 2, none⟩ = some (.bool t214) ∧ w'.cell? ⟨gb223, 3, none⟩ = some (.int .i64 t215) ∧ w'.cell? ⟨gb223, 4, none⟩ = some (.int .i64 t216) ∧ w'.cell? ⟨gb223, 5, none⟩ = some (.slice Ao16 t217.length co16) ∧ w'.cell? ⟨gb223, 6, none⟩ = some (.slice (some ad237) t220.length co17) ∧ w'.cell? ⟨gb235, 0, none⟩ = some (.int .i64 t224) ∧ w'.cell? ⟨gb235, 1, none⟩ = some (.int .i64 t225) ∧ w'.cell? ⟨gb235, 2, none⟩ = some (.bool t226) ∧ w'.cell? ⟨gb235, 3, none⟩ = some (.int .i64 t227) ∧ w'.cell? ⟨gb235, 4, none⟩ = some (.int .i64 t228) ∧ w'.cell? ⟨gb235, 5, none⟩ = some (.slice Ao23 t229.length co23) ∧ w'.cell? ⟨gb235, 6, none⟩ = some (.slice (some ad238) t232.length co24) ∧ w'.cell? (ad237.add ((x7_2).toNat * 4)) = some (.int .i64 ((rd_T40 t220 x7_2).f0)) ∧ w'.cell? ⟨(ad237.add ((x7_2).toNat * 4)).block, (ad237.add ((x7_2).toNat * 4)).off + 1, none⟩ = some (.bool ((rd_T40 t220 x7_2).f1)) ∧ w'.cell? ⟨(ad237.add ((x7_2).toNat * 4)).block, (ad237.add ((x7_2).toNat * 4)).off + 2, none⟩ = some (.int .i64 ((rd_T40 t220 x7_2).f2)) ∧ w'.cell? ⟨(ad237.add ((x7_2).toNat * 4)).block, (ad237.add ((x7_2).toNat * 4)).off + 3, none⟩ = some (.int .i64 ((rd_T40 t220 x7_2).f3)) ∧ w'.cell? (ad238.add ((x7_2).toNat * 4)) = some (.int .i64 ((rd_T40 t232 x7_2).f0)) ∧ w'.cell? ⟨(ad238.add ((x7_2).toNat * 4)).block, (ad238.add ((x7_2).toNat * 4)).off + 1, none⟩ = some (.bool ((rd_T40 t232 x7_2).f1)) ∧ w'.cell? ⟨(ad238.add ((x7_2).toNat * 4)).block, (ad238.add ((x7_2).toNat * 4)).off + 2, none⟩ = some (.int .i64 ((rd_T40 t232 x7_2).f2)) ∧ w'.cell? ⟨(ad238.add ((x7_2).toNat * 4)).block, (ad238.add ((x7_2).toNat * 4)).off + 3, none⟩ = some (.int .i64 ((rd_T40 t232 x7_2).f3))) (ds := []) #[false, false, false, false, false, false, false, false, false, false, false] (by kernel_rfl) rfl rfl ⟨(blk_cell BK223.out 0).trans rfl, (blk_cell BK223.out 1).trans rfl, (blk_cell BK223.out 2).trans rfl, (blk_cell BK223.out 3).trans rfl, (blk_cell BK223.out 4).trans rfl, (blk_cell BK223.out 5).trans rfl, (blk_cell BK223.out 6).trans rfl, (blk_cell BK235.out 0).trans rfl, (blk_cell BK235.out 1).trans rfl, (blk_cell BK235.out 2).trans rfl, (blk_cell BK235.out 3).trans rfl, (blk_cell BK235.out 4).trans rfl, (blk_cell BK235.out 5).trans rfl, (blk_cell BK235.out 6).trans rfl, hx237_0, hx237_1, hx237_2, hx237_3, hx238_0, hx238_1, hx238_2, hx238_3⟩ (fun hHeld => ?_); refine with_tabW busbarlaw21_BudgetFits.tab10 busbarlaw21_BudgetFits.bits10 (fun HT_ HW_ => ?_)
            generalize wr.drew = w59 at HO_224005 HO_224006 HO_236005 HO_236006 BK210 BK223 BK235 HB hx237_0 hx237_1 hx237_2 hx237_3 hx238_0 hx238_1 hx238_2 hx238_3 hHeld ⊢
            refine pure_ (i := 0) (N := some 47) (v := ?_) (a' := ?_) #[true, false, false, false, false, false, false, false, false, false, false] rfl rfl (any_of HT_.out (by kernel_rfl)) (fun _ _ _ h => h) (Or.inl ⟨by rfl, ?_⟩) ?_ ?_
            rotate_left
            · intro w'
              go_simp
              with_reducible rfl
            rotate_left
            · simp only [Act.put, List.setIfInBounds_toArray, List.set_cons_zero, List.set_cons_succ, i64_w, i32_w]
              rfl
            refine pure_ (i := 2) (N := some 49) (v := ?_) (a' := ?_) #[true, false, true, false, false, false, false, false, false, false, false] rfl rfl (any_of HT_.out (by kernel_rfl)) (fun _ _ _ h => h) (Or.inl ⟨by rfl, ?_⟩) ?_ ?_
            rotate_left
            · intro w'
              go_simp
              with_reducible rfl
            rotate_left
            · simp only [Act.put, List.setIfInBounds_toArray, List.set_cons_zero, List.set_cons_succ, i64_w, i32_w]
              rfl
            refine pure_ (i := 5) (N := some 52) (v := ?_) (a' := ?_) #[true, false, true, false, false, true, false, false, false, false, false] rfl rfl (any_of HT_.out (by kernel_rfl)) (fun _ _ _ h => h) (Or.inl ⟨by rfl, ?_⟩) ?_ ?_
            rotate_left
            · intro w'
              go_simp
              with_reducible rfl
            rotate_left
            · simp only [Act.put, List.setIfInBounds_toArray, List.set_cons_zero, List.set_cons_succ, i64_w, i32_w]
              rfl
            refine pure_ (i := 7) (N := some 54) (v := ?_) (a' := ?_) #[true, false, true, false, false, true, false, true, false, false, false] rfl rfl (any_of HT_.out (by kernel_rfl)) (fun _ _ _ h => h) (Or.inl ⟨by rfl, ?_⟩) ?_ ?_
            rotate_left
            · intro w'
              go_simp
              with_reducible rfl
            rotate_left
            · simp only [Act.put, List.setIfInBounds_toArray, List.set_cons_zero, List.set_cons_succ, i64_w, i32_w]
              rfl
            refine take_ (i := 1) (N := some 48) (v := ?_) (a' := ?_) #[true, true, true, false, false, true, false, true, false, false, false] rfl rfl (take_ofW HT_.out HW_.out (by kernel_rfl)) (fun _ _ _ h => h) (Or.inl ⟨by rfl, ?_⟩) hHeld ?_ ?_
            rotate_left
            · rintro w' ⟨s0, s1, s2, s3, s4, s5, s6, s7, s8, s9, s10, s11, s12, s13, s14, s15, s16, s17, s18, s19, s20, s21⟩
              go_simp
              with_reducible rfl
            rotate_left
            · simp only [Act.put, List.setIfInBounds_toArray, List.set_cons_zero, List.set_cons_succ, i64_w, i32_w]
              rfl
            refine pure_ (i := 3) (N := some 50) (v := ?_) (a' := ?_) #[true, true, true, true, false, true, false, true, false, false, false] rfl rfl (any_of HT_.out (by kernel_rfl)) (fun _ _ _ h => h) (Or.inl ⟨by rfl, ?_⟩) ?_ ?_
            rotate_left
            · intro w'
              go_simp
              with_reducible rfl
            rotate_left
            · simp only [Act.put, List.setIfInBounds_toArray, List.set_cons_zero, List.set_cons_succ, i64_w, i32_w]
              rfl
            refine take_ (i := 4) (N := some 51) (v := ?_) (a' := ?_) #[true, true, true, true, true, true, false, true, false, false, false] rfl rfl (take_ofW HT_.out HW_.out (by kernel_rfl)) (fun _ _ _ h => h) (Or.inl ⟨by rfl, ?_⟩) hHeld ?_ ?_
            rotate_left
            · rintro w' ⟨s0, s1, s2, s3, s4, s5, s6, s7, s8, s9, s10, s11, s12, s13, s14, s15, s16, s17, s18, s19, s20, s21⟩
              go_simp
              with_reducible rfl
            rotate_left
            · simp only [Act.put, List.setIfInBounds_toArray, List.set_cons_zero, List.set_cons_succ, i64_w, i32_w]
              rfl
            refine take_ (i := 6) (N := some 53) (v := ?_) (a' := ?_) #[true, true, true, true, true, true, true, true, false, false, false] rfl rfl (take_ofW HT_.out HW_.out (by kernel_rfl)) (fun _ _ _ h => h) (Or.inl ⟨by rfl, ?_⟩) hHeld ?_ ?_
            rotate_left
            · rintro w' ⟨s0, s1, s2, s3, s4, s5, s6, s7, s8, s9, s10, s11, s12, s13, s14, s15, s16, s17, s18, s19, s20, s21⟩
              go_simp
              with_reducible rfl
            rotate_left
            · simp only [Act.put, List.setIfInBounds_toArray, List.set_cons_zero, List.set_cons_succ, i64_w, i32_w]
              rfl
            refine pure_ (i := 8) (N := some 55) (v := ?_) (a' := ?_) #[true, true, true, true, true, true, true, true, true, false, false] rfl rfl (any_of HT_.out (by kernel_rfl)) (fun _ _ _ h => h) (Or.inl ⟨by rfl, ?_⟩) ?_ ?_
            rotate_left
            · intro w'
              go_simp
              with_reducible rfl
            rotate_left
            · simp only [Act.put, List.setIfInBounds_toArray, List.set_cons_zero, List.set_cons_succ, i64_w, i32_w]
              rfl
            refine take_ (i := 9) (N := some 56) (v := ?_) (a' := ?_) #[true, true, true, true, true, true, true, true, true, true, false] rfl rfl (take_ofW HT_.out HW_.out (by kernel_rfl)) (fun _ _ _ h => h) (Or.inl ⟨by rfl, ?_⟩) hHeld ?_ ?_
            rotate_left
            · rintro w' ⟨s0, s1, s2, s3, s4, s5, s6, s7, s8, s9, s10, s11, s12, s13, s14, s15, s16, s17, s18, s19, s20, s21⟩
              go_simp
              with_reducible rfl
            rotate_left
            · simp only [Act.put, List.setIfInBounds_toArray, List.set_cons_zero, List.set_cons_succ, i64_w, i32_w]
              rfl
            refine pure_ (i := 10) (N := some 57) (v := ?_) (a' := ?_) #[true, true, true, true, true, true, true, true, true, true, true] rfl rfl (any_of HT_.out (by kernel_rfl)) (fun _ _ _ h => h) (Or.inl ⟨by rfl, ?_⟩) ?_ ?_
            rotate_left
            · intro w'
              go_simp
              with_reducible rfl
            rotate_left
            · simp only [Act.put, List.setIfInBounds_toArray, List.set_cons_zero, List.set_cons_succ, i64_w, i32_w]
              rfl
            refine done_ (done_of HT_.out (by kernel_rfl)) ?_
            try go_wp2
            go_roundg k2
            case measure => have := HJ6.out; have := HK2.out; omega
            case rel => exact ⟨(wrap64 (x7_2 + 1)), (by first | rfl | (simp; done) | (simp [*]; done)), H', ⟨by have := HJ6.out; have := HK2.out; omega⟩, ⟨rk_ HO_224005⟩, ⟨rk_ HO_224006⟩, ⟨rk_ HO_236005⟩, ⟨rk_ HO_236006⟩, ⟨bk_ BK210⟩, ⟨bk_ BK223⟩, ⟨bk_ BK235⟩, ⟨be_ HB⟩⟩
          rw [if_neg c50] at H
          exact absurd H (by simp)
        rw [if_neg c49] at H
        exact absurd H (by simp)
      rw [if_neg c48] at H
      have c48b0 : decide (x7_2 < (t220.length : Int)) = false := decide_eq_false c48
      clear c48
      replace H := Option.bind_eq_some_iff.mp H
      obtain ⟨⟨t239, t240, t241, t242, t243, t244, t247⟩, A600, H⟩ := H
      replace H : (if (t247.length : Int) = (l0_6.length : Int) then ((budget_Course_Check.f t239 t240 t241 t242 t243 t244 t247 a1).bind fun t251 => ((budget_Course_Check.f a0_0 a0_1 a0_2 a0_3 a0_4 l0_5 l0_6 a1).bind fun t252 => (busbarlaw21_BudgetFits.j2 k2 a1 (t251 != t252) a0_0 a0_1 a0_2 a0_3 a0_4 l0_5 l0_6 t212 t213 t214 t215 t216 t217 t220 t239 t240 t241 t242 t243 t244 t247))) else (busbarlaw21_BudgetFits.j2 k2 a1 true a0_0 a0_1 a0_2 a0_3 a0_4 l0_5 l0_6 t212 t213 t214 t215 t216 t217 t220 t239 t240 t241 t242 t243 t244 t247)) = some r := H
      have A60 := Aside0.mk A600
      clear A600
      have HC61 := Aside0.mk H
      clear H
      have hnb62 := NB223_210.out
      have hnc62 := NB210_223.out
      have hnb63 := NB223_235.out
      have hnc63 := NB235_223.out
      obtain ⟨hcz64_0, hcz64_1, hcz64_2, hcz64_3, hcz64_4, hcz64_5, hcz64_6⟩ := bc7_ BK223
      obtain ⟨hfz64_0, hfz64_1, hfz64_2, hfz64_3, hfz64_4, hfz64_5, hfz64_6⟩ := bz7_ BK223
      have hnb65 := NB210_235.out
      have hnc65 := NB235_210.out
      obtain ⟨hcz66_0, hcz66_1, hcz66_2, hcz66_3, hcz66_4, hcz66_5, hcz66_6⟩ := bc7_ BK210
      obtain ⟨hfz66_0, hfz66_1, hfz66_2, hfz66_3, hfz66_4, hfz66_5, hfz66_6⟩ := bz7_ BK210
      go_upto_region 13 with (first | ((with_reducible refine gate_callee (f := 25) rfl ?_); refine goesL_ (some 59) rfl rfl Try.func25 (by kernel_rfl) rfl #[.agg #[.int .i64 a0_0, .int .i64 a0_1, .bool a0_2, .int .i64 a0_3, .int .i64 a0_4, .slice A0_5 l0_5.length c0_5, .slice A0_6 l0_6.length c0_6]] rfl (by (try simp only [List.map_toArray, List.map_cons, List.map_nil]); first | done | rfl | (simp only [List.length_drop, List.length_take]; rfl)) ?_; (with_reducible refine (budget_Course_Clone.calls a0_0 a0_1 a0_2 a0_3 a0_4 _ _ l0_5 _ _ l0_6 t239 t240 t241 t242 t243 t244 t247 _ ?side1 ?side2 ?side3 ?side4 A60.out).mono ?_); (case side1 => repeat (first | exact (Kd.C_below HR0_5.out HB.out) | (with_reducible refine Kd.C_alloc ?_ _) | (with_reducible refine Kd.C_drewN ?_ _) | (with_reducible refine Kd.C_drew ?_))); (case side2 => exact HC0_5.out); (case side3 => repeat (first | exact (Kd.C_below HR0_6.out HB.out) | (with_reducible refine Kd.C_alloc ?_ _) | (with_reducible refine Kd.C_drewN ?_ _) | (with_reducible refine Kd.C_drew ?_))); (case side4 => exact HC0_6.out); rintro e w67 ⟨v245, v248, rfl, ho0, ho1, hb⟩; refine ⟨_, rfl, ?_⟩; have n0_ := Aside0.mk (Kd.R_elder' (rk_ HO_224005) (Kd.R_base ho0) hb); have n1_ := Aside0.mk (Kd.R_elder' (rk_ HO_224006) (Kd.R_base ho1) hb); have n2_ := Aside0.mk (Kd.R_elder' (rk_ HO_236005) (Kd.R_base ho0) hb); have n3_ := Aside0.mk (Kd.R_elder' (rk_ HO_236006) (Kd.R_base ho1) hb); have n4_ := Aside0.mk (Kd.R_lower (Kd.R_new' (Kd.R_new' ho0 (Kd.R_lt (rk_ HO_224005))) (Kd.R_lt (rk_ HO_236005))) (below_size (be_ HB))); have n5_ := Aside0.mk (Kd.R_lower (Kd.R_new' (Kd.R_new' ho1 (Kd.R_lt (rk_ HO_224006))) (Kd.R_lt (rk_ HO_236006))) (below_size (be_ HB))); have n6_ := bb_ BK210 hb; have n7_ := bb_ BK223 hb; have n8_ := bb_ BK235 hb; have n9_ := Aside0.mk (below_step (be_ HB) hb); clear HO_224005; clear HO_224006; clear HO_236005; clear HO_236006; clear BK210; clear BK223; clear BK235; clear HB; have HO_224005 := n0_; have HO_224006 := n1_; have HO_236005 := n2_; have HO_236006 := n3_; have HO246 := n4_; have HO249 := n5_; have BK210 := n6_; have BK223 := n7_; have BK235 := n8_; have HB := n9_; clear n0_ n1_ n2_ n3_ n4_ n5_ n6_ n7_ n8_ n9_; (try clear hb); (try clear hb2); (try clear hk); (try clear hi); (try clear ho0); (try clear ho1)) | ((with_reducible refine gate_dst (N := 8) rfl ?_); (try (refine gate_guard (by rfl) ?_; dsimp only)); refine box_event ?hg (N := 8) ?hd (cs := #[.int .i64 0, .int .i64 0, .bool false, .int .i64 0, .int .i64 0, .slice none 0 0, .slice none 0 0]) (t := 27) ?hr ?_; (case hd => rfl); (case hg => rfl); (case hr => first | (go_simp; done) | (go_simp; rfl)); intro gb250 hg w68 hbox hb; have n0_ := rb_ HO_224005 hb; have n1_ := rb_ HO_224006 hb; have n2_ := rb_ HO_236005 hb; have n3_ := rb_ HO_236006 hb; have n4_ := rb_ HO246 hb; have n5_ := rb_ HO249 hb; have n6_ := bb_ BK210 hb; have n7_ := bb_ BK223 hb; have n8_ := bb_ BK235 hb; have n9_ := Aside0.mk (below_step (be_ HB) hb); have n10_ := Aside0.mk (hbox); have n11_ := Aside0.mk ((by rw [hg]; exact (below_size (be_ HB)) : w.heap.size ≤ gb250)); have n12_ := Aside0.mk ((by rw [hg]; exact (below_size (be_ HB)) : w.heap.size ≤ gb250)); have n13_ := Aside0.mk ((by rw [hg]; exact Nat.ne_of_lt (blk_lt (g := gb210) (o := .cells #[.int .i64 a0_0, .int .i64 a0_1, .bool a0_2, .int .i64 a0_3, .int .i64 a0_4, .slice A0_5 l0_5.length c0_5, .slice A0_6 l0_6.length c0_6] 27 (0, 0)) (bk_ BK210)) : gb210 ≠ gb250)); have n14_ := Aside0.mk ((by rw [hg]; exact Nat.ne_of_gt (blk_lt (g := gb210) (o := .cells #[.int .i64 a0_0, .int .i64 a0_1, .bool a0_2, .int .i64 a0_3, .int .i64 a0_4, .slice A0_5 l0_5.length c0_5, .slice A0_6 l0_6.length c0_6] 27 (0, 0)) (bk_ BK210)) : gb250 ≠ gb210)); have n15_ := Aside0.mk ((by rw [hg]; exact Nat.ne_of_lt (blk_lt (g := gb223) (o := .cells #[.int .i64 t212, .int .i64 t213, .bool t214, .int .i64 t215, .int .i64 t216, .slice Ao16 t217.length co16, .slice Ao17 t220.length co17] 27 (0, 0)) (bk_ BK223)) : gb223 ≠ gb250)); have n16_ := Aside0.mk ((by rw [hg]; exact Nat.ne_of_gt (blk_lt (g := gb223) (o := .cells #[.int .i64 t212, .int .i64 t213, .bool t214, .int .i64 t215, .int .i64 t216, .slice Ao16 t217.length co16, .slice Ao17 t220.length co17] 27 (0, 0)) (bk_ BK223)) : gb250 ≠ gb223)); have n17_ := Aside0.mk ((by rw [hg]; exact Nat.ne_of_lt (blk_lt (g := gb235) (o := .cells #[.int .i64 t224, .int .i64 t225, .bool t226, .int .i64 t227, .int .i64 t228, .slice Ao23 t229.length co23, .slice Ao24 t232.length co24] 27 (0, 0)) (bk_ BK235)) : gb235 ≠ gb250)); have n18_ := Aside0.mk ((by rw [hg]; exact Nat.ne_of_gt (blk_lt (g := gb235) (o := .cells #[.int .i64 t224, .int .i64 t225, .bool t226, .int .i64 t227, .int .i64 t228, .slice Ao23 t229.length co23, .slice Ao24 t232.length co24] 27 (0, 0)) (bk_ BK235)) : gb250 ≠ gb235)); clear HO_224005; clear HO_224006; clear HO_236005; clear HO_236006; clear HO246; clear HO249; clear BK210; clear BK223; clear BK235; clear HB; have HO_224005 := n0_; have HO_224006 := n1_; have HO_236005 := n2_; have HO_236006 := n3_; have HO246 := n4_; have HO249 := n5_; have BK210 := n6_; have BK223 := n7_; have BK235 := n8_; have HB := n9_; have BK250 := n10_; have GW250 := n11_; have GE250 := n12_; have NB210_250 := n13_; have NB250_210 := n14_; have NB223_250 := n15_; have NB250_223 := n16_; have NB235_250 := n17_; have NB250_235 := n18_; clear n0_ n1_ n2_ n3_ n4_ n5_ n6_ n7_ n8_ n9_ n10_ n11_ n12_ n13_ n14_ n15_ n16_ n17_ n18_; clear hb hbox hg; have hnb69 := NB250_210.out; have hnc69 := NB210_250.out; have hnb70 := NB250_223.out; have hnc70 := NB223_250.out; have hnb71 := NB250_235.out; have hnc71 := NB235_250.out; have hcz72_0 : w68.cell? ⟨gb250, 0, none⟩ = some (.int .i64 0) := (blk_cell BK250.out 0).trans rfl; have hcz72_1 : w68.cell? ⟨gb250, 1, none⟩ = some (.int .i64 0) := (blk_cell BK250.out 1).trans rfl; have hcz72_2 : w68.cell? ⟨gb250, 2, none⟩ = some (.bool false) := (blk_cell BK250.out 2).trans rfl; have hcz72_3 : w68.cell? ⟨gb250, 3, none⟩ = some (.int .i64 0) := (blk_cell BK250.out 3).trans rfl; have hcz72_4 : w68.cell? ⟨gb250, 4, none⟩ = some (.int .i64 0) := (blk_cell BK250.out 4).trans rfl; have hcz72_5 : w68.cell? ⟨gb250, 5, none⟩ = some (.slice none 0 0) := (blk_cell BK250.out 5).trans rfl; have hcz72_6 : w68.cell? ⟨gb250, 6, none⟩ = some (.slice none 0 0) := (blk_cell BK250.out 6).trans rfl; have hfz72_0 := blk_frozen BK250.out 0; have hfz72_1 := blk_frozen BK250.out 1; have hfz72_2 := blk_frozen BK250.out 2; have hfz72_3 := blk_frozen BK250.out 3; have hfz72_4 := blk_frozen BK250.out 4; have hfz72_5 := blk_frozen BK250.out 5; have hfz72_6 := blk_frozen BK250.out 6; obtain ⟨Ao73, co73, eo73⟩ := Kd.R_slice HO246.out; subst eo73; obtain ⟨Ao74, co74, eo74⟩ := Kd.R_slice HO249.out; subst eo74))
      (try simp only [Act.put, List.setIfInBounds_toArray, List.set_cons_zero, List.set_cons_succ])
      go_cut [75] (fun v75 wc => ∃ (kq : Nat) (x75_60 : Bool), v75 = .bool x75_60 ∧ Aside0 (busbarlaw21_BudgetFits.j2 kq a1 x75_60 a0_0 a0_1 a0_2 a0_3 a0_4 l0_5 l0_6 t212 t213 t214 t215 t216 t217 t220 t239 t240 t241 t242 t243 t244 t247 = some r) ∧ Aside0 (kq ≤ k2) ∧ Aside0 (Kd.R (Kd.int .u8) 5 wc w.heap.size (fun k_ => some k_ ≠ ((.slice Ao23 t229.length co23) : Value).ownBlock ∧ some k_ ≠ ((.slice Ao73 t244.length co73) : Value).ownBlock) (.slice Ao16 t217.length co16) t217) ∧ Aside0 (Kd.R k40 40 wc w.heap.size (fun k_ => some k_ ≠ ((.slice Ao24 t232.length co24) : Value).ownBlock ∧ some k_ ≠ ((.slice Ao74 t247.length co74) : Value).ownBlock) (.slice Ao17 t220.length co17) t220) ∧ Aside0 (Kd.R (Kd.int .u8) 5 wc w.heap.size (fun k_ => some k_ ≠ ((.slice Ao16 t217.length co16) : Value).ownBlock ∧ some k_ ≠ ((.slice Ao73 t244.length co73) : Value).ownBlock) (.slice Ao23 t229.length co23) t229) ∧ Aside0 (Kd.R k40 40 wc w.heap.size (fun k_ => some k_ ≠ ((.slice Ao17 t220.length co17) : Value).ownBlock ∧ some k_ ≠ ((.slice Ao74 t247.length co74) : Value).ownBlock) (.slice Ao24 t232.length co24) t232) ∧ Aside0 (Kd.R (Kd.int .u8) 5 wc w.heap.size (fun k_ => some k_ ≠ ((.slice Ao16 t217.length co16) : Value).ownBlock ∧ some k_ ≠ ((.slice Ao23 t229.length co23) : Value).ownBlock) (.slice Ao73 t244.length co73) t244) ∧ Aside0 (Kd.R k40 40 wc w.heap.size (fun k_ => some k_ ≠ ((.slice Ao17 t220.length co17) : Value).ownBlock ∧ some k_ ≠ ((.slice Ao24 t232.length co24) : Value).ownBlock) (.slice Ao74 t247.length co74) t247) ∧ Aside0 (wc.heap[gb210]? = some (.cells #[.int .i64 a0_0, .int .i64 a0_1, .bool a0_2, .int .i64 a0_3, .int .i64 a0_4, (.slice A0_5 l0_5.length c0_5), (.slice A0_6 l0_6.length c0_6)] 27 (0, 0))) ∧ Aside0 (wc.heap[gb223]? = some (.cells #[.int .i64 t212, .int .i64 t213, .bool t214, .int .i64 t215, .int .i64 t216, (.slice Ao16 t217.length co16), (.slice Ao17 t220.length co17)] 27 (0, 0))) ∧ Aside0 (wc.heap[gb235]? = some (.cells #[.int .i64 t224, .int .i64 t225, .bool t226, .int .i64 t227, .int .i64 t228, (.slice Ao23 t229.length co23), (.slice Ao24 t232.length co24)] 27 (0, 0))) ∧ Aside0 (wc.heap[gb250]? = some (.cells #[.int .i64 t239, .int .i64 t240, .bool t241, .int .i64 t242, .int .i64 t243, (.slice Ao73 t244.length co73), (.slice Ao74 t247.length co74)] 27 (0, 0))) ∧ Aside0 (Below w.heap.size w wc))
      case first =>
       have H := HC61.out
       clear HC61
       by_cases c75 : (t247.length : Int) = (l0_6.length : Int)
       · rw [if_pos c75] at H
         have c75b0 : ((t247.length : Int) == (l0_6.length : Int)) = true := beq_iff_eq.mpr c75
         have c75b1 : ((t247.length : Int) != (l0_6.length : Int)) = false := bne_eq_false_iff_eq.mpr c75
         have c75b2 : (t247.length == l0_6.length) = true := by first | simpa using c75 | (simp at c75 ⊢; omega)
         clear c75
         (first | rw [c75b0] | (simp only [i64_w, i32_w]; rw [c75b0]) | rw [c75b1] | skip)
         replace H := Option.bind_eq_some_iff.mp H
         obtain ⟨t251, A760, H⟩ := H
         replace H : ((budget_Course_Check.f a0_0 a0_1 a0_2 a0_3 a0_4 l0_5 l0_6 a1).bind fun t252 => (busbarlaw21_BudgetFits.j2 k2 a1 (t251 != t252) a0_0 a0_1 a0_2 a0_3 a0_4 l0_5 l0_6 t212 t213 t214 t215 t216 t217 t220 t239 t240 t241 t242 t243 t244 t247)) = some r := H
         have A76 := Aside0.mk A760
         clear A760
         replace H := Option.bind_eq_some_iff.mp H
         obtain ⟨t252, A770, H⟩ := H
         replace H : (busbarlaw21_BudgetFits.j2 k2 a1 (t251 != t252) a0_0 a0_1 a0_2 a0_3 a0_4 l0_5 l0_6 t212 t213 t214 t215 t216 t217 t220 t239 t240 t241 t242 t243 t244 t247) = some r := H
         have A77 := Aside0.mk A770
         clear A770
         have H' := Aside0.mk H
         clear H
         try go_wp2
         have n0_ : Aside0 (Kd.R (Kd.int .u8) 5 (((((((w68.setCell ⟨gb250, 0, none⟩ (.int .i64 t239)).setCell ⟨gb250, 1, none⟩ (.int .i64 t240)).setCell ⟨gb250, 2, none⟩ (.bool t241)).setCell ⟨gb250, 3, none⟩ (.int .i64 t242)).setCell ⟨gb250, 4, none⟩ (.int .i64 t243)).setCell ⟨gb250, 5, none⟩ (.slice Ao73 t244.length co73)).setCell ⟨gb250, 6, none⟩ (.slice Ao74 t247.length co74)) w.heap.size (fun k_ => some k_ ≠ (.slice Ao23 t229.length co23 : Value).ownBlock ∧ some k_ ≠ (.slice Ao73 t244.length co73 : Value).ownBlock) (.slice Ao16 t217.length co16) t217) := ⟨by (with_reducible repeat (first | apply Kd.R_alloc | apply Kd.R_drewN | apply Kd.R_drew)); exact Kd.R_mono (R7_ HO_224005.out BK250.out (by decide) _ _ _ _ _ _ _) (fun _ hk => ⟨hk.1.1, hk.1.2⟩)⟩
         have n1_ : Aside0 (Kd.R k40 40 (((((((w68.setCell ⟨gb250, 0, none⟩ (.int .i64 t239)).setCell ⟨gb250, 1, none⟩ (.int .i64 t240)).setCell ⟨gb250, 2, none⟩ (.bool t241)).setCell ⟨gb250, 3, none⟩ (.int .i64 t242)).setCell ⟨gb250, 4, none⟩ (.int .i64 t243)).setCell ⟨gb250, 5, none⟩ (.slice Ao73 t244.length co73)).setCell ⟨gb250, 6, none⟩ (.slice Ao74 t247.length co74)) w.heap.size (fun k_ => some k_ ≠ (.slice Ao24 t232.length co24 : Value).ownBlock ∧ some k_ ≠ (.slice Ao74 t247.length co74 : Value).ownBlock) (.slice Ao17 t220.length co17) t220) := ⟨by (with_reducible repeat (first | apply Kd.R_alloc | apply Kd.R_drewN | apply Kd.R_drew)); exact Kd.R_mono (R7_ HO_224006.out BK250.out (by decide) _ _ _ _ _ _ _) (fun _ hk => ⟨hk.1.1, hk.1.2⟩)⟩
         have n2_ : Aside0 (Kd.R (Kd.int .u8) 5 (((((((w68.setCell ⟨gb250, 0, none⟩ (.int .i64 t239)).setCell ⟨gb250, 1, none⟩ (.int .i64 t240)).setCell ⟨gb250, 2, none⟩ (.bool t241)).setCell ⟨gb250, 3, none⟩ (.int .i64 t242)).setCell ⟨gb250, 4, none⟩ (.int .i64 t243)).setCell ⟨gb250, 5, none⟩ (.slice Ao73 t244.length co73)).setCell ⟨gb250, 6, none⟩ (.slice Ao74 t247.length co74)) w.heap.size (fun k_ => some k_ ≠ (.slice Ao16 t217.length co16 : Value).ownBlock ∧ some k_ ≠ (.slice Ao73 t244.length co73 : Value).ownBlock) (.slice Ao23 t229.length co23) t229) := ⟨by (with_reducible repeat (first | apply Kd.R_alloc | apply Kd.R_drewN | apply Kd.R_drew)); exact Kd.R_mono (R7_ HO_236005.out BK250.out (by decide) _ _ _ _ _ _ _) (fun _ hk => ⟨hk.1.1, hk.1.2⟩)⟩
         have n3_ : Aside0 (Kd.R k40 40 (((((((w68.setCell ⟨gb250, 0, none⟩ (.int .i64 t239)).setCell ⟨gb250, 1, none⟩ (.int .i64 t240)).setCell ⟨gb250, 2, none⟩ (.bool t241)).setCell ⟨gb250, 3, none⟩ (.int .i64 t242)).setCell ⟨gb250, 4, none⟩ (.int .i64 t243)).setCell ⟨gb250, 5, none⟩ (.slice Ao73 t244.length co73)).setCell ⟨gb250, 6, none⟩ (.slice Ao74 t247.length co74)) w.heap.size (fun k_ => some k_ ≠ (.slice Ao17 t220.length co17 : Value).ownBlock ∧ some k_ ≠ (.slice Ao74 t247.length co74 : Value).ownBlock) (.slice Ao24 t232.length co24) t232) := ⟨by (with_reducible repeat (first | apply Kd.R_alloc | apply Kd.R_drewN | apply Kd.R_drew)); exact Kd.R_mono (R7_ HO_236006.out BK250.out (by decide) _ _ _ _ _ _ _) (fun _ hk => ⟨hk.1.1, hk.1.2⟩)⟩
         have n4_ : Aside0 (Kd.R (Kd.int .u8) 5 (((((((w68.setCell ⟨gb250, 0, none⟩ (.int .i64 t239)).setCell ⟨gb250, 1, none⟩ (.int .i64 t240)).setCell ⟨gb250, 2, none⟩ (.bool t241)).setCell ⟨gb250, 3, none⟩ (.int .i64 t242)).setCell ⟨gb250, 4, none⟩ (.int .i64 t243)).setCell ⟨gb250, 5, none⟩ (.slice Ao73 t244.length co73)).setCell ⟨gb250, 6, none⟩ (.slice Ao74 t247.length co74)) w.heap.size (fun k_ => some k_ ≠ (.slice Ao16 t217.length co16 : Value).ownBlock ∧ some k_ ≠ (.slice Ao23 t229.length co23 : Value).ownBlock) (.slice Ao73 t244.length co73) t244) := ⟨by (with_reducible repeat (first | apply Kd.R_alloc | apply Kd.R_drewN | apply Kd.R_drew)); exact Kd.R_mono (R7_ HO246.out BK250.out (by decide) _ _ _ _ _ _ _) (fun _ hk => ⟨hk.1.1.2, hk.1.2⟩)⟩
         have n5_ : Aside0 (Kd.R k40 40 (((((((w68.setCell ⟨gb250, 0, none⟩ (.int .i64 t239)).setCell ⟨gb250, 1, none⟩ (.int .i64 t240)).setCell ⟨gb250, 2, none⟩ (.bool t241)).setCell ⟨gb250, 3, none⟩ (.int .i64 t242)).setCell ⟨gb250, 4, none⟩ (.int .i64 t243)).setCell ⟨gb250, 5, none⟩ (.slice Ao73 t244.length co73)).setCell ⟨gb250, 6, none⟩ (.slice Ao74 t247.length co74)) w.heap.size (fun k_ => some k_ ≠ (.slice Ao17 t220.length co17 : Value).ownBlock ∧ some k_ ≠ (.slice Ao24 t232.length co24 : Value).ownBlock) (.slice Ao74 t247.length co74) t247) := ⟨by (with_reducible repeat (first | apply Kd.R_alloc | apply Kd.R_drewN | apply Kd.R_drew)); exact Kd.R_mono (R7_ HO249.out BK250.out (by decide) _ _ _ _ _ _ _) (fun _ hk => ⟨hk.1.1.2, hk.1.2⟩)⟩
         have n6_ : Aside0 ((((((((w68.setCell ⟨gb250, 0, none⟩ (.int .i64 t239)).setCell ⟨gb250, 1, none⟩ (.int .i64 t240)).setCell ⟨gb250, 2, none⟩ (.bool t241)).setCell ⟨gb250, 3, none⟩ (.int .i64 t242)).setCell ⟨gb250, 4, none⟩ (.int .i64 t243)).setCell ⟨gb250, 5, none⟩ (.slice Ao73 t244.length co73)).setCell ⟨gb250, 6, none⟩ (.slice Ao74 t247.length co74)).heap[gb210]? = some (.cells #[.int .i64 a0_0, .int .i64 a0_1, .bool a0_2, .int .i64 a0_3, .int .i64 a0_4, .slice A0_5 l0_5.length c0_5, .slice A0_6 l0_6.length c0_6] 27 (0, 0))) := ⟨bfk_ BK210 NB210_250⟩
         have n7_ : Aside0 ((((((((w68.setCell ⟨gb250, 0, none⟩ (.int .i64 t239)).setCell ⟨gb250, 1, none⟩ (.int .i64 t240)).setCell ⟨gb250, 2, none⟩ (.bool t241)).setCell ⟨gb250, 3, none⟩ (.int .i64 t242)).setCell ⟨gb250, 4, none⟩ (.int .i64 t243)).setCell ⟨gb250, 5, none⟩ (.slice Ao73 t244.length co73)).setCell ⟨gb250, 6, none⟩ (.slice Ao74 t247.length co74)).heap[gb223]? = some (.cells #[.int .i64 t212, .int .i64 t213, .bool t214, .int .i64 t215, .int .i64 t216, .slice Ao16 t217.length co16, .slice Ao17 t220.length co17] 27 (0, 0))) := ⟨bfk_ BK223 NB223_250⟩
         have n8_ : Aside0 ((((((((w68.setCell ⟨gb250, 0, none⟩ (.int .i64 t239)).setCell ⟨gb250, 1, none⟩ (.int .i64 t240)).setCell ⟨gb250, 2, none⟩ (.bool t241)).setCell ⟨gb250, 3, none⟩ (.int .i64 t242)).setCell ⟨gb250, 4, none⟩ (.int .i64 t243)).setCell ⟨gb250, 5, none⟩ (.slice Ao73 t244.length co73)).setCell ⟨gb250, 6, none⟩ (.slice Ao74 t247.length co74)).heap[gb235]? = some (.cells #[.int .i64 t224, .int .i64 t225, .bool t226, .int .i64 t227, .int .i64 t228, .slice Ao23 t229.length co23, .slice Ao24 t232.length co24] 27 (0, 0))) := ⟨bfk_ BK235 NB235_250⟩
         have n9_ : Aside0 ((((((((w68.setCell ⟨gb250, 0, none⟩ (.int .i64 t239)).setCell ⟨gb250, 1, none⟩ (.int .i64 t240)).setCell ⟨gb250, 2, none⟩ (.bool t241)).setCell ⟨gb250, 3, none⟩ (.int .i64 t242)).setCell ⟨gb250, 4, none⟩ (.int .i64 t243)).setCell ⟨gb250, 5, none⟩ (.slice Ao73 t244.length co73)).setCell ⟨gb250, 6, none⟩ (.slice Ao74 t247.length co74)).heap[gb250]? = some (.cells #[.int .i64 t239, .int .i64 t240, .bool t241, .int .i64 t242, .int .i64 t243, .slice Ao73 t244.length co73, .slice Ao74 t247.length co74] 27 (0, 0))) := ⟨by (with_reducible repeat (first | refine blk_drewN ?_ _ | refine blk_drew ?_ | refine blk_alloc ?_ _)); refine blk_put (cs := #[.int .i64 t239, .int .i64 t240, .bool t241, .int .i64 t242, .int .i64 t243, .slice Ao73 t244.length co73, .slice none 0 0]) ?_ 6 _ rfl; (with_reducible repeat (first | refine blk_drewN ?_ _ | refine blk_drew ?_ | refine blk_alloc ?_ _)); refine blk_put (cs := #[.int .i64 t239, .int .i64 t240, .bool t241, .int .i64 t242, .int .i64 t243, .slice none 0 0, .slice none 0 0]) ?_ 5 _ rfl; (with_reducible repeat (first | refine blk_drewN ?_ _ | refine blk_drew ?_ | refine blk_alloc ?_ _)); refine blk_put (cs := #[.int .i64 t239, .int .i64 t240, .bool t241, .int .i64 t242, .int .i64 0, .slice none 0 0, .slice none 0 0]) ?_ 4 _ rfl; (with_reducible repeat (first | refine blk_drewN ?_ _ | refine blk_drew ?_ | refine blk_alloc ?_ _)); refine blk_put (cs := #[.int .i64 t239, .int .i64 t240, .bool t241, .int .i64 0, .int .i64 0, .slice none 0 0, .slice none 0 0]) ?_ 3 _ rfl; (with_reducible repeat (first | refine blk_drewN ?_ _ | refine blk_drew ?_ | refine blk_alloc ?_ _)); refine blk_put (cs := #[.int .i64 t239, .int .i64 t240, .bool false, .int .i64 0, .int .i64 0, .slice none 0 0, .slice none 0 0]) ?_ 2 _ rfl; (with_reducible repeat (first | refine blk_drewN ?_ _ | refine blk_drew ?_ | refine blk_alloc ?_ _)); refine blk_put (cs := #[.int .i64 t239, .int .i64 0, .bool false, .int .i64 0, .int .i64 0, .slice none 0 0, .slice none 0 0]) ?_ 1 _ rfl; (with_reducible repeat (first | refine blk_drewN ?_ _ | refine blk_drew ?_ | refine blk_alloc ?_ _)); refine blk_put (cs := #[.int .i64 0, .int .i64 0, .bool false, .int .i64 0, .int .i64 0, .slice none 0 0, .slice none 0 0]) ?_ 0 _ rfl; (with_reducible repeat (first | refine blk_drewN ?_ _ | refine blk_drew ?_ | refine blk_alloc ?_ _)); exact BK250.out⟩
         have n10_ : Aside0 (Below w.heap.size w (((((((w68.setCell ⟨gb250, 0, none⟩ (.int .i64 t239)).setCell ⟨gb250, 1, none⟩ (.int .i64 t240)).setCell ⟨gb250, 2, none⟩ (.bool t241)).setCell ⟨gb250, 3, none⟩ (.int .i64 t242)).setCell ⟨gb250, 4, none⟩ (.int .i64 t243)).setCell ⟨gb250, 5, none⟩ (.slice Ao73 t244.length co73)).setCell ⟨gb250, 6, none⟩ (.slice Ao74 t247.length co74))) := ⟨be_ HB⟩
         (try clear HO_224005)
         (try clear HO_224006)
         (try clear HO_236005)
         (try clear HO_236006)
         (try clear HO246)
         (try clear HO249)
         (try clear BK210)
         (try clear BK223)
         (try clear BK235)
         (try clear BK250)
         (try clear HB)
         generalize (((((((w68.setCell ⟨gb250, 0, none⟩ (.int .i64 t239)).setCell ⟨gb250, 1, none⟩ (.int .i64 t240)).setCell ⟨gb250, 2, none⟩ (.bool t241)).setCell ⟨gb250, 3, none⟩ (.int .i64 t242)).setCell ⟨gb250, 4, none⟩ (.int .i64 t243)).setCell ⟨gb250, 5, none⟩ (.slice Ao73 t244.length co73)).setCell ⟨gb250, 6, none⟩ (.slice Ao74 t247.length co74)) = w78 at n0_ n1_ n2_ n3_ n4_ n5_ n6_ n7_ n8_ n9_ n10_ ⊢
         have HO_224005 := n0_
         have HO_224006 := n1_
         have HO_236005 := n2_
         have HO_236006 := n3_
         have HO246 := n4_
         have HO249 := n5_
         have BK210 := n6_
         have BK223 := n7_
         have BK235 := n8_
         have BK250 := n9_
         have HB := n10_
         clear n0_ n1_ n2_ n3_ n4_ n5_ n6_ n7_ n8_ n9_ n10_
         have n0_ := Aside0.mk (Kd.R_drew HO_224005.out)
         have n1_ := Aside0.mk (Kd.R_drew HO_224006.out)
         have n2_ := Aside0.mk (Kd.R_drew HO_236005.out)
         have n3_ := Aside0.mk (Kd.R_drew HO_236006.out)
         have n4_ := Aside0.mk (Kd.R_drew HO246.out)
         have n5_ := Aside0.mk (Kd.R_drew HO249.out)
         have n6_ := Aside0.mk (blk_drew BK210.out)
         have n7_ := Aside0.mk (blk_drew BK223.out)
         have n8_ := Aside0.mk (blk_drew BK235.out)
         have n9_ := Aside0.mk (blk_drew BK250.out)
         have n10_ := Aside0.mk (below_drew1 HB.out)
         clear HO_224005
         clear HO_224006
         clear HO_236005
         clear HO_236006
         clear HO246
         clear HO249
         clear BK210
         clear BK223
         clear BK235
         clear BK250
         clear HB
         have HO_224005 := n0_
         have HO_224006 := n1_
         have HO_236005 := n2_
         have HO_236006 := n3_
         have HO246 := n4_
         have HO249 := n5_
         have BK210 := n6_
         have BK223 := n7_
         have BK235 := n8_
         have BK250 := n9_
         have HB := n10_
         clear n0_ n1_ n2_ n3_ n4_ n5_ n6_ n7_ n8_ n9_ n10_
         refine start_ (n := 16) (S := fun w' => w'.cell? ⟨gb250, 0, none⟩ = some (.int .i64 t239) ∧ w'.cell? ⟨gb250, 1, none⟩ = some (.int .i64 t240) ∧ w'.cell? ⟨gb250, 2, none⟩ = some (.bool t241) ∧ w'.cell? ⟨gb250, 3, none⟩ = some (.int .i64 t242) ∧ w'.cell? ⟨gb250, 4, none⟩ = some (.int .i64 t243) ∧ w'.cell? ⟨gb250, 5, none⟩ = some (.slice Ao73 t244.length co73) ∧ w'.cell? ⟨gb250, 6, none⟩ = some (.slice Ao74 t247.length co74) ∧ w'.cell? ⟨gb210, 0, none⟩ = some (.int .i64 a0_0) ∧ w'.cell? ⟨gb210, 1, none⟩ = some (.int .i64 a0_1) ∧ w'.cell? ⟨gb210, 2, none⟩ = some (.bool a0_2) ∧ w'.cell? ⟨gb210, 3, none⟩ = some (.int .i64 a0_3) ∧ w'.cell? ⟨gb210, 4, none⟩ = some (.int .i64 a0_4) ∧ w'.cell? ⟨gb210, 5, none⟩ = some (.slice A0_5 l0_5.length c0_5) ∧ w'.cell? ⟨gb210, 6, none⟩ = some (.slice A0_6 l0_6.length c0_6)) (ds := []) #[false, false, false, false, false, false, false, false, false, false, false, false, false, false, false, false] (by kernel_rfl) rfl rfl ⟨(blk_cell BK250.out 0).trans rfl, (blk_cell BK250.out 1).trans rfl, (blk_cell BK250.out 2).trans rfl, (blk_cell BK250.out 3).trans rfl, (blk_cell BK250.out 4).trans rfl, (blk_cell BK250.out 5).trans rfl, (blk_cell BK250.out 6).trans rfl, (blk_cell BK210.out 0).trans rfl, (blk_cell BK210.out 1).trans rfl, (blk_cell BK210.out 2).trans rfl, (blk_cell BK210.out 3).trans rfl, (blk_cell BK210.out 4).trans rfl, (blk_cell BK210.out 5).trans rfl, (blk_cell BK210.out 6).trans rfl⟩ (fun hHeld => ?_); refine with_tabW busbarlaw21_BudgetFits.tab13 busbarlaw21_BudgetFits.bits13 (fun HT_ HW_ => ?_)
         generalize w78.drew = w79 at HO_224005 HO_224006 HO_236005 HO_236006 HO246 HO249 BK210 BK223 BK235 BK250 HB hHeld ⊢
         refine pure_ (i := 0) (N := some 60) (v := ?_) (a' := ?_) #[true, false, false, false, false, false, false, false, false, false, false, false, false, false, false, false] rfl rfl (any_of HT_.out (by kernel_rfl)) (fun _ _ _ h => h) (Or.inl ⟨by rfl, ?_⟩) ?_ ?_
         rotate_left
         · intro w'
           go_simp
           with_reducible rfl
         rotate_left
         · simp only [Act.put, List.setIfInBounds_toArray, List.set_cons_zero, List.set_cons_succ, i64_w, i32_w]
           rfl
         refine pure_ (i := 3) (N := some 63) (v := ?_) (a' := ?_) #[true, false, false, true, false, false, false, false, false, false, false, false, false, false, false, false] rfl rfl (any_of HT_.out (by kernel_rfl)) (fun _ _ _ h => h) (Or.inl ⟨by rfl, ?_⟩) ?_ ?_
         rotate_left
         · intro w'
           go_simp
           with_reducible rfl
         rotate_left
         · simp only [Act.put, List.setIfInBounds_toArray, List.set_cons_zero, List.set_cons_succ, i64_w, i32_w]
           rfl
         refine take_ (i := 1) (N := some 61) (v := ?_) (a' := ?_) #[true, true, false, true, false, false, false, false, false, false, false, false, false, false, false, false] rfl rfl (take_ofW HT_.out HW_.out (by kernel_rfl)) (fun _ _ _ h => h) (Or.inl ⟨by rfl, ?_⟩) hHeld ?_ ?_
         rotate_left
         · rintro w' ⟨s0, s1, s2, s3, s4, s5, s6, s7, s8, s9, s10, s11, s12, s13⟩
           go_simp
           with_reducible rfl
         rotate_left
         · simp only [Act.put, List.setIfInBounds_toArray, List.set_cons_zero, List.set_cons_succ, i64_w, i32_w]
           rfl
         refine pure_ (i := 2) (N := some 62) (v := ?_) (a' := ?_) #[true, true, true, true, false, false, false, false, false, false, false, false, false, false, false, false] rfl rfl (any_of HT_.out (by kernel_rfl)) (fun _ _ _ h => h) (Or.inl ⟨by rfl, ?_⟩) ?_ ?_
         rotate_left
         · intro w'
           go_simp
           with_reducible rfl
         rotate_left
         · simp only [Act.put, List.setIfInBounds_toArray, List.set_cons_zero, List.set_cons_succ, i64_w, i32_w]
           rfl
         refine take_ (i := 4) (N := some 64) (v := ?_) (a' := ?_) #[true, true, true, true, true, false, false, false, false, false, false, false, false, false, false, false] rfl rfl (take_ofW HT_.out HW_.out (by kernel_rfl)) (fun _ _ _ h => h) (Or.inl ⟨by rfl, ?_⟩) hHeld ?_ ?_
         rotate_left
         · rintro w' ⟨s0, s1, s2, s3, s4, s5, s6, s7, s8, s9, s10, s11, s12, s13⟩
           go_simp
           with_reducible rfl
         rotate_left
         · simp only [Act.put, List.setIfInBounds_toArray, List.set_cons_zero, List.set_cons_succ, i64_w, i32_w]
           rfl
         refine pure_ (i := 5) (N := some 65) (v := ?_) (a' := ?_) #[true, true, true, true, true, true, false, false, false, false, false, false, false, false, false, false] rfl rfl (any_of HT_.out (by kernel_rfl)) (fun _ _ _ h => h) (Or.inl ⟨by rfl, ?_⟩) ?_ ?_
         rotate_left
         · intro w'
           go_simp
           with_reducible rfl
         rotate_left
         · simp only [Act.put, List.setIfInBounds_toArray, List.set_cons_zero, List.set_cons_succ, i64_w, i32_w]
           rfl
         refine pure_ (i := 6) (N := some 66) (v := ?_) (a' := ?_) #[true, true, true, true, true, true, true, false, false, false, false, false, false, false, false, false] rfl rfl (any_of HT_.out (by kernel_rfl)) (fun _ _ _ h => h) (Or.inl ⟨by rfl, ?_⟩) ?_ ?_
         rotate_left
         · intro w'
           go_simp
           with_reducible rfl
         rotate_left
         · simp only [Act.put, List.setIfInBounds_toArray, List.set_cons_zero, List.set_cons_succ, i64_w, i32_w]
           rfl
         refine pure_ (i := 7) (N := some 67) (v := ?_) (a' := ?_) #[true, true, true, true, true, true, true, true, false, false, false, false, false, false, false, false] rfl rfl (any_of HT_.out (by kernel_rfl)) (fun _ _ _ h => h) (Or.inl ⟨by rfl, ?_⟩) ?_ ?_
         rotate_left
         · intro w'
           go_simp
           with_reducible rfl
         rotate_left
         · simp only [Act.put, List.setIfInBounds_toArray, List.set_cons_zero, List.set_cons_succ, i64_w, i32_w]
           rfl
         refine pure_ (i := 9) (N := some 69) (v := ?_) (a' := ?_) #[true, true, true, true, true, true, true, true, false, true, false, false, false, false, false, false] rfl rfl (any_of HT_.out (by kernel_rfl)) (fun _ _ _ h => h) (Or.inl ⟨by rfl, ?_⟩) ?_ ?_
         rotate_left
         · intro w'
           go_simp
           with_reducible rfl
         rotate_left
         · simp only [Act.put, List.setIfInBounds_toArray, List.set_cons_zero, List.set_cons_succ, i64_w, i32_w]
           rfl
         refine pure_ (i := 12) (N := some 72) (v := ?_) (a' := ?_) #[true, true, true, true, true, true, true, true, false, true, false, false, true, false, false, false] rfl rfl (any_of HT_.out (by kernel_rfl)) (fun _ _ _ h => h) (Or.inl ⟨by rfl, ?_⟩) ?_ ?_
         rotate_left
         · intro w'
           go_simp
           with_reducible rfl
         rotate_left
         · simp only [Act.put, List.setIfInBounds_toArray, List.set_cons_zero, List.set_cons_succ, i64_w, i32_w]
           rfl
         refine take_ (i := 8) (N := some 68) (v := ?_) (a' := ?_) #[true, true, true, true, true, true, true, true, true, true, false, false, true, false, false, false] rfl rfl (take_ofW HT_.out HW_.out (by kernel_rfl)) (fun _ _ _ h => h) (Or.inl ⟨by rfl, ?_⟩) hHeld ?_ ?_
         rotate_left
         · rintro w' ⟨s0, s1, s2, s3, s4, s5, s6, s7, s8, s9, s10, s11, s12, s13⟩
           go_simp
           with_reducible rfl
         rotate_left
         · simp only [Act.put, List.setIfInBounds_toArray, List.set_cons_zero, List.set_cons_succ, i64_w, i32_w]
           rfl
         refine take_ (i := 11) (N := some 71) (v := ?_) (a' := ?_) #[true, true, true, true, true, true, true, true, true, true, false, true, true, false, false, false] rfl rfl (take_ofW HT_.out HW_.out (by kernel_rfl)) (fun _ _ _ h => h) (Or.inl ⟨by rfl, ?_⟩) hHeld ?_ ?_
         rotate_left
         · rintro w' ⟨s0, s1, s2, s3, s4, s5, s6, s7, s8, s9, s10, s11, s12, s13⟩
           go_simp
           with_reducible rfl
         rotate_left
         · simp only [Act.put, List.setIfInBounds_toArray, List.set_cons_zero, List.set_cons_succ, i64_w, i32_w]
           rfl
         refine one_ (i := 10) (N := some 70) #[true, true, true, true, true, true, true, true, true, true, true, true, true, false, false, false] rfl rfl (one_of HT_.out (by kernel_rfl)) (by decide) (fun K hK => ?_)
         refine goes_ Try.func23 (by kernel_rfl) rfl #[.agg #[.int .i64 t239, .int .i64 t240, .bool t241, .int .i64 t242, .int .i64 t243, .slice Ao73 t244.length co73, .slice Ao74 t247.length co74], .int .i64 a1] (by rfl) rfl rfl (by (try simp only [List.map_toArray, List.map_cons, List.map_nil]); first | done | rfl | (simp only [List.length_drop, List.length_take]; rfl)) ?_
         with_reducible refine (budget_Course_Check.calls t239 t240 t241 t242 t243 _ _ t244 _ _ t247 a1 t251 _ ?side1 ?side2 ?side3 ?side4 A76.out).mono ?_
         (case side1 => repeat (first | exact (Kd.R_reads' HO246.out).2.2 | (with_reducible refine Kd.C_alloc ?_ _) | (with_reducible refine Kd.C_drewN ?_ _) | (with_reducible refine Kd.C_drew ?_)))
         (case side2 => exact (Kd.R_reads' HO246.out).2.1)
         (case side3 => repeat (first | exact (Kd.R_reads' HO249.out).2.2 | (with_reducible refine Kd.C_alloc ?_ _) | (with_reducible refine Kd.C_drewN ?_ _) | (with_reducible refine Kd.C_drew ?_)))
         (case side4 => exact (Kd.R_reads' HO249.out).2.1)
         rintro e w80 ⟨rfl, hb⟩
         refine ⟨_, rfl, ?_⟩
         have n0_ := rb_ HO_224005 hb
         have n1_ := rb_ HO_224006 hb
         have n2_ := rb_ HO_236005 hb
         have n3_ := rb_ HO_236006 hb
         have n4_ := rb_ HO246 hb
         have n5_ := rb_ HO249 hb
         have n6_ := bb_ BK210 hb
         have n7_ := bb_ BK223 hb
         have n8_ := bb_ BK235 hb
         have n9_ := bb_ BK250 hb
         have n10_ := Aside0.mk (below_step (be_ HB) hb)
         clear HO_224005
         clear HO_224006
         clear HO_236005
         clear HO_236006
         clear HO246
         clear HO249
         clear BK210
         clear BK223
         clear BK235
         clear BK250
         clear HB
         have HO_224005 := n0_
         have HO_224006 := n1_
         have HO_236005 := n2_
         have HO_236006 := n3_
         have HO246 := n4_
         have HO249 := n5_
         have BK210 := n6_
         have BK223 := n7_
         have BK235 := n8_
         have BK250 := n9_
         have HB := n10_
         clear n0_ n1_ n2_ n3_ n4_ n5_ n6_ n7_ n8_ n9_ n10_
         (try clear hb)
         (try clear hk)
         refine hK.out _ _ ⟨(blk_cell BK250.out 0).trans rfl, (blk_cell BK250.out 1).trans rfl, (blk_cell BK250.out 2).trans rfl, (blk_cell BK250.out 3).trans rfl, (blk_cell BK250.out 4).trans rfl, (blk_cell BK250.out 5).trans rfl, (blk_cell BK250.out 6).trans rfl, (blk_cell BK210.out 0).trans rfl, (blk_cell BK210.out 1).trans rfl, (blk_cell BK210.out 2).trans rfl, (blk_cell BK210.out 3).trans rfl, (blk_cell BK210.out 4).trans rfl, (blk_cell BK210.out 5).trans rfl, (blk_cell BK210.out 6).trans rfl⟩ (fun hHeld => ?_)
         clear hK K
         refine norm_ (a' := ?_) ?_ ?_
         rotate_left
         · show Act.put _ (some 70) _ = _
           simp only [Act.put, List.setIfInBounds_toArray, List.set_cons_zero, List.set_cons_succ, i64_w, i32_w]
           rfl
         refine one_ (i := 13) (N := some 73) #[true, true, true, true, true, true, true, true, true, true, true, true, true, true, false, false] rfl rfl (one_of HT_.out (by kernel_rfl)) (by decide) (fun K hK => ?_)
         refine goes_ Try.func23 (by kernel_rfl) rfl #[.agg #[.int .i64 a0_0, .int .i64 a0_1, .bool a0_2, .int .i64 a0_3, .int .i64 a0_4, .slice A0_5 l0_5.length c0_5, .slice A0_6 l0_6.length c0_6], .int .i64 a1] (by rfl) rfl rfl (by (try simp only [List.map_toArray, List.map_cons, List.map_nil]); first | done | rfl | (simp only [List.length_drop, List.length_take]; rfl)) ?_
         with_reducible refine (budget_Course_Check.calls a0_0 a0_1 a0_2 a0_3 a0_4 _ _ l0_5 _ _ l0_6 a1 t252 _ ?side1 ?side2 ?side3 ?side4 A77.out).mono ?_
         (case side1 => repeat (first | exact (Kd.C_below HR0_5.out HB.out) | (with_reducible refine Kd.C_alloc ?_ _) | (with_reducible refine Kd.C_drewN ?_ _) | (with_reducible refine Kd.C_drew ?_)))
         (case side2 => exact HC0_5.out)
         (case side3 => repeat (first | exact (Kd.C_below HR0_6.out HB.out) | (with_reducible refine Kd.C_alloc ?_ _) | (with_reducible refine Kd.C_drewN ?_ _) | (with_reducible refine Kd.C_drew ?_)))
         (case side4 => exact HC0_6.out)
         rintro e w81 ⟨rfl, hb⟩
         refine ⟨_, rfl, ?_⟩
         have n0_ := rb_ HO_224005 hb
         have n1_ := rb_ HO_224006 hb
         have n2_ := rb_ HO_236005 hb
         have n3_ := rb_ HO_236006 hb
         have n4_ := rb_ HO246 hb
         have n5_ := rb_ HO249 hb
         have n6_ := bb_ BK210 hb
         have n7_ := bb_ BK223 hb
         have n8_ := bb_ BK235 hb
         have n9_ := bb_ BK250 hb
         have n10_ := Aside0.mk (below_step (be_ HB) hb)
         clear HO_224005
         clear HO_224006
         clear HO_236005
         clear HO_236006
         clear HO246
         clear HO249
         clear BK210
         clear BK223
         clear BK235
         clear BK250
         clear HB
         have HO_224005 := n0_
         have HO_224006 := n1_
         have HO_236005 := n2_
         have HO_236006 := n3_
         have HO246 := n4_
         have HO249 := n5_
         have BK210 := n6_
         have BK223 := n7_
         have BK235 := n8_
         have BK250 := n9_
         have HB := n10_
         clear n0_ n1_ n2_ n3_ n4_ n5_ n6_ n7_ n8_ n9_ n10_
         (try clear hb)
         (try clear hk)
         refine hK.out _ _ ⟨(blk_cell BK250.out 0).trans rfl, (blk_cell BK250.out 1).trans rfl, (blk_cell BK250.out 2).trans rfl, (blk_cell BK250.out 3).trans rfl, (blk_cell BK250.out 4).trans rfl, (blk_cell BK250.out 5).trans rfl, (blk_cell BK250.out 6).trans rfl, (blk_cell BK210.out 0).trans rfl, (blk_cell BK210.out 1).trans rfl, (blk_cell BK210.out 2).trans rfl, (blk_cell BK210.out 3).trans rfl, (blk_cell BK210.out 4).trans rfl, (blk_cell BK210.out 5).trans rfl, (blk_cell BK210.out 6).trans rfl⟩ (fun hHeld => ?_)
         clear hK K
         refine norm_ (a' := ?_) ?_ ?_
         rotate_left
         · show Act.put _ (some 73) _ = _
           simp only [Act.put, List.setIfInBounds_toArray, List.set_cons_zero, List.set_cons_succ, i64_w, i32_w]
           rfl
         refine pure_ (i := 14) (N := some 74) (v := ?_) (a' := ?_) #[true, true, true, true, true, true, true, true, true, true, true, true, true, true, true, false] rfl rfl (any_of HT_.out (by kernel_rfl)) (fun _ _ _ h => h) (Or.inl ⟨by rfl, ?_⟩) ?_ ?_
         rotate_left
         · intro w'
           go_simp
           with_reducible rfl
         rotate_left
         · simp only [Act.put, List.setIfInBounds_toArray, List.set_cons_zero, List.set_cons_succ, i64_w, i32_w]
           rfl
         refine pure_ (i := 15) (N := some 75) (v := ?_) (a' := ?_) #[true, true, true, true, true, true, true, true, true, true, true, true, true, true, true, true] rfl rfl (any_of HT_.out (by kernel_rfl)) (fun _ _ _ h => h) (Or.inl ⟨by rfl, ?_⟩) ?_ ?_
         rotate_left
         · intro w'
           go_simp
           with_reducible rfl
         rotate_left
         · simp only [Act.put, List.setIfInBounds_toArray, List.set_cons_zero, List.set_cons_succ, i64_w, i32_w]
           rfl
         refine done_ (done_of HT_.out (by kernel_rfl)) ?_
         try go_wp2
         go_meet
         case rel => exact ⟨_, ((t251 != t252)), (by first | rfl | (simp; done) | (simp [*]; done)), H', ⟨by have := HJ6.out; have := HK2.out; first | omega | exact Nat.le_refl _⟩, ⟨rk_ HO_224005⟩, ⟨rk_ HO_224006⟩, ⟨rk_ HO_236005⟩, ⟨rk_ HO_236006⟩, ⟨rk_ HO246⟩, ⟨rk_ HO249⟩, ⟨bk_ BK210⟩, ⟨bk_ BK223⟩, ⟨bk_ BK235⟩, ⟨bk_ BK250⟩, ⟨be_ HB⟩⟩
       rw [if_neg c75] at H
       have c75b0 : ((t247.length : Int) == (l0_6.length : Int)) = false := beq_eq_false_iff_ne.mpr c75
       have c75b1 : ((t247.length : Int) != (l0_6.length : Int)) = true := bne_iff_ne.mpr c75
       have c75b2 : (t247.length == l0_6.length) = false := by first | simpa using c75 | (simp at c75 ⊢; omega)
       (first | rw [c75b0] | (simp only [i64_w, i32_w]; rw [c75b0]) | rw [c75b1] | skip)
       have H' := Aside0.mk H
       clear H
       try go_wp2
       have n0_ : Aside0 (Kd.R (Kd.int .u8) 5 (((((((w68.setCell ⟨gb250, 0, none⟩ (.int .i64 t239)).setCell ⟨gb250, 1, none⟩ (.int .i64 t240)).setCell ⟨gb250, 2, none⟩ (.bool t241)).setCell ⟨gb250, 3, none⟩ (.int .i64 t242)).setCell ⟨gb250, 4, none⟩ (.int .i64 t243)).setCell ⟨gb250, 5, none⟩ (.slice Ao73 t244.length co73)).setCell ⟨gb250, 6, none⟩ (.slice Ao74 t247.length co74)) w.heap.size (fun k_ => some k_ ≠ (.slice Ao23 t229.length co23 : Value).ownBlock ∧ some k_ ≠ (.slice Ao73 t244.length co73 : Value).ownBlock) (.slice Ao16 t217.length co16) t217) := ⟨by (with_reducible repeat (first | apply Kd.R_alloc | apply Kd.R_drewN | apply Kd.R_drew)); exact Kd.R_mono (R7_ HO_224005.out BK250.out (by decide) _ _ _ _ _ _ _) (fun _ hk => ⟨hk.1.1, hk.1.2⟩)⟩
       have n1_ : Aside0 (Kd.R k40 40 (((((((w68.setCell ⟨gb250, 0, none⟩ (.int .i64 t239)).setCell ⟨gb250, 1, none⟩ (.int .i64 t240)).setCell ⟨gb250, 2, none⟩ (.bool t241)).setCell ⟨gb250, 3, none⟩ (.int .i64 t242)).setCell ⟨gb250, 4, none⟩ (.int .i64 t243)).setCell ⟨gb250, 5, none⟩ (.slice Ao73 t244.length co73)).setCell ⟨gb250, 6, none⟩ (.slice Ao74 t247.length co74)) w.heap.size (fun k_ => some k_ ≠ (.slice Ao24 t232.length co24 : Value).ownBlock ∧ some k_ ≠ (.slice Ao74 t247.length co74 : Value).ownBlock) (.slice Ao17 t220.length co17) t220) := ⟨by (with_reducible repeat (first | apply Kd.R_alloc | apply Kd.R_drewN | apply Kd.R_drew)); exact Kd.R_mono (R7_ HO_224006.out BK250.out (by decide) _ _ _ _ _ _ _) (fun _ hk => ⟨hk.1.1, hk.1.2⟩)⟩
       have n2_ : Aside0 (Kd.R (Kd.int .u8) 5 (((((((w68.setCell ⟨gb250, 0, none⟩ (.int .i64 t239)).setCell ⟨gb250, 1, none⟩ (.int .i64 t240)).setCell ⟨gb250, 2, none⟩ (.bool t241)).setCell ⟨gb250, 3, none⟩ (.int .i64 t242)).setCell ⟨gb250, 4, none⟩ (.int .i64 t243)).setCell ⟨gb250, 5, none⟩ (.slice Ao73 t244.length co73)).setCell ⟨gb250, 6, none⟩ (.slice Ao74 t247.length co74)) w.heap.size (fun k_ => some k_ ≠ (.slice Ao16 t217.length co16 : Value).ownBlock ∧ some k_ ≠ (.slice Ao73 t244.length co73 : Value).ownBlock) (.slice Ao23 t229.length co23) t229) := ⟨by (with_reducible repeat (first | apply Kd.R_alloc | apply Kd.R_drewN | apply Kd.R_drew)); exact Kd.R_mono (R7_ HO_236005.out BK250.out (by decide) _ _ _ _ _ _ _) (fun _ hk => ⟨hk.1.1, hk.1.2⟩)⟩
       have n3_ : Aside0 (Kd.R k40 40 (((((((w68.setCell ⟨gb250, 0, none⟩ (.int .i64 t239)).setCell ⟨gb250, 1, none⟩ (.int .i64 t240)).setCell ⟨gb250, 2, none⟩ (.bool t241)).setCell ⟨gb250, 3, none⟩ (.int .i64 t242)).setCell ⟨gb250, 4, none⟩ (.int .i64 t243)).setCell ⟨gb250, 5, none⟩ (.slice Ao73 t244.length co73)).setCell ⟨gb250, 6, none⟩ (.slice Ao74 t247.length co74)) w.heap.size (fun k_ => some k_ ≠ (.slice Ao17 t220.length co17 : Value).ownBlock ∧ some k_ ≠ (.slice Ao74 t247.length co74 : Value).ownBlock) (.slice Ao24 t232.length co24) t232) := ⟨by (with_reducible repeat (first | apply Kd.R_alloc | apply Kd.R_drewN | apply Kd.R_drew)); exact Kd.R_mono (R7_ HO_236006.out BK250.out (by decide) _ _ _ _ _ _ _) (fun _ hk => ⟨hk.1.1, hk.1.2⟩)⟩
       have n4_ : Aside0 (Kd.R (Kd.int .u8) 5 (((((((w68.setCell ⟨gb250, 0, none⟩ (.int .i64 t239)).setCell ⟨gb250, 1, none⟩ (.int .i64 t240)).setCell ⟨gb250, 2, none⟩ (.bool t241)).setCell ⟨gb250, 3, none⟩ (.int .i64 t242)).setCell ⟨gb250, 4, none⟩ (.int .i64 t243)).setCell ⟨gb250, 5, none⟩ (.slice Ao73 t244.length co73)).setCell ⟨gb250, 6, none⟩ (.slice Ao74 t247.length co74)) w.heap.size (fun k_ => some k_ ≠ (.slice Ao16 t217.length co16 : Value).ownBlock ∧ some k_ ≠ (.slice Ao23 t229.length co23 : Value).ownBlock) (.slice Ao73 t244.length co73) t244) := ⟨by (with_reducible repeat (first | apply Kd.R_alloc | apply Kd.R_drewN | apply Kd.R_drew)); exact Kd.R_mono (R7_ HO246.out BK250.out (by decide) _ _ _ _ _ _ _) (fun _ hk => ⟨hk.1.1.2, hk.1.2⟩)⟩
       have n5_ : Aside0 (Kd.R k40 40 (((((((w68.setCell ⟨gb250, 0, none⟩ (.int .i64 t239)).setCell ⟨gb250, 1, none⟩ (.int .i64 t240)).setCell ⟨gb250, 2, none⟩ (.bool t241)).setCell ⟨gb250, 3, none⟩ (.int .i64 t242)).setCell ⟨gb250, 4, none⟩ (.int .i64 t243)).setCell ⟨gb250, 5, none⟩ (.slice Ao73 t244.length co73)).setCell ⟨gb250, 6, none⟩ (.slice Ao74 t247.length co74)) w.heap.size (fun k_ => some k_ ≠ (.slice Ao17 t220.length co17 : Value).ownBlock ∧ some k_ ≠ (.slice Ao24 t232.length co24 : Value).ownBlock) (.slice Ao74 t247.length co74) t247) := ⟨by (with_reducible repeat (first | apply Kd.R_alloc | apply Kd.R_drewN | apply Kd.R_drew)); exact Kd.R_mono (R7_ HO249.out BK250.out (by decide) _ _ _ _ _ _ _) (fun _ hk => ⟨hk.1.1.2, hk.1.2⟩)⟩
       have n6_ : Aside0 ((((((((w68.setCell ⟨gb250, 0, none⟩ (.int .i64 t239)).setCell ⟨gb250, 1, none⟩ (.int .i64 t240)).setCell ⟨gb250, 2, none⟩ (.bool t241)).setCell ⟨gb250, 3, none⟩ (.int .i64 t242)).setCell ⟨gb250, 4, none⟩ (.int .i64 t243)).setCell ⟨gb250, 5, none⟩ (.slice Ao73 t244.length co73)).setCell ⟨gb250, 6, none⟩ (.slice Ao74 t247.length co74)).heap[gb210]? = some (.cells #[.int .i64 a0_0, .int .i64 a0_1, .bool a0_2, .int .i64 a0_3, .int .i64 a0_4, .slice A0_5 l0_5.length c0_5, .slice A0_6 l0_6.length c0_6] 27 (0, 0))) := ⟨bfk_ BK210 NB210_250⟩
       have n7_ : Aside0 ((((((((w68.setCell ⟨gb250, 0, none⟩ (.int .i64 t239)).setCell ⟨gb250, 1, none⟩ (.int .i64 t240)).setCell ⟨gb250, 2, none⟩ (.bool t241)).setCell ⟨gb250, 3, none⟩ (.int .i64 t242)).setCell ⟨gb250, 4, none⟩ (.int .i64 t243)).setCell ⟨gb250, 5, none⟩ (.slice Ao73 t244.length co73)).setCell ⟨gb250, 6, none⟩ (.slice Ao74 t247.length co74)).heap[gb223]? = some (.cells #[.int .i64 t212, .int .i64 t213, .bool t214, .int .i64 t215, .int .i64 t216, .slice Ao16 t217.length co16, .slice Ao17 t220.length co17] 27 (0, 0))) := ⟨bfk_ BK223 NB223_250⟩
       have n8_ : Aside0 ((((((((w68.setCell ⟨gb250, 0, none⟩ (.int .i64 t239)).setCell ⟨gb250, 1, none⟩ (.int .i64 t240)).setCell ⟨gb250, 2, none⟩ (.bool t241)).setCell ⟨gb250, 3, none⟩ (.int .i64 t242)).setCell ⟨gb250, 4, none⟩ (.int .i64 t243)).setCell ⟨gb250, 5, none⟩ (.slice Ao73 t244.length co73)).setCell ⟨gb250, 6, none⟩ (.slice Ao74 t247.length co74)).heap[gb235]? = some (.cells #[.int .i64 t224, .int .i64 t225, .bool t226, .int .i64 t227, .int .i64 t228, .slice Ao23 t229.length co23, .slice Ao24 t232.length co24] 27 (0, 0))) := ⟨bfk_ BK235 NB235_250⟩
       have n9_ : Aside0 ((((((((w68.setCell ⟨gb250, 0, none⟩ (.int .i64 t239)).setCell ⟨gb250, 1, none⟩ (.int .i64 t240)).setCell ⟨gb250, 2, none⟩ (.bool t241)).setCell ⟨gb250, 3, none⟩ (.int .i64 t242)).setCell ⟨gb250, 4, none⟩ (.int .i64 t243)).setCell ⟨gb250, 5, none⟩ (.slice Ao73 t244.length co73)).setCell ⟨gb250, 6, none⟩ (.slice Ao74 t247.length co74)).heap[gb250]? = some (.cells #[.int .i64 t239, .int .i64 t240, .bool t241, .int .i64 t242, .int .i64 t243, .slice Ao73 t244.length co73, .slice Ao74 t247.length co74] 27 (0, 0))) := ⟨by (with_reducible repeat (first | refine blk_drewN ?_ _ | refine blk_drew ?_ | refine blk_alloc ?_ _)); refine blk_put (cs := #[.int .i64 t239, .int .i64 t240, .bool t241, .int .i64 t242, .int .i64 t243, .slice Ao73 t244.length co73, .slice none 0 0]) ?_ 6 _ rfl; (with_reducible repeat (first | refine blk_drewN ?_ _ | refine blk_drew ?_ | refine blk_alloc ?_ _)); refine blk_put (cs := #[.int .i64 t239, .int .i64 t240, .bool t241, .int .i64 t242, .int .i64 t243, .slice none 0 0, .slice none 0 0]) ?_ 5 _ rfl; (with_reducible repeat (first | refine blk_drewN ?_ _ | refine blk_drew ?_ | refine blk_alloc ?_ _)); refine blk_put (cs := #[.int .i64 t239, .int .i64 t240, .bool t241, .int .i64 t242, .int .i64 0, .slice none 0 0, .slice none 0 0]) ?_ 4 _ rfl; (with_reducible repeat (first | refine blk_drewN ?_ _ | refine blk_drew ?_ | refine blk_alloc ?_ _)); refine blk_put (cs := #[.int .i64 t239, .int .i64 t240, .bool t241, .int .i64 0, .int .i64 0, .slice none 0 0, .slice none 0 0]) ?_ 3 _ rfl; (with_reducible repeat (first | refine blk_drewN ?_ _ | refine blk_drew ?_ | refine blk_alloc ?_ _)); refine blk_put (cs := #[.int .i64 t239, .int .i64 t240, .bool false, .int .i64 0, .int .i64 0, .slice none 0 0, .slice none 0 0]) ?_ 2 _ rfl; (with_reducible repeat (first | refine blk_drewN ?_ _ | refine blk_drew ?_ | refine blk_alloc ?_ _)); refine blk_put (cs := #[.int .i64 t239, .int .i64 0, .bool false, .int .i64 0, .int .i64 0, .slice none 0 0, .slice none 0 0]) ?_ 1 _ rfl; (with_reducible repeat (first | refine blk_drewN ?_ _ | refine blk_drew ?_ | refine blk_alloc ?_ _)); refine blk_put (cs := #[.int .i64 0, .int .i64 0, .bool false, .int .i64 0, .int .i64 0, .slice none 0 0, .slice none 0 0]) ?_ 0 _ rfl; (with_reducible repeat (first | refine blk_drewN ?_ _ | refine blk_drew ?_ | refine blk_alloc ?_ _)); exact BK250.out⟩
       have n10_ : Aside0 (Below w.heap.size w (((((((w68.setCell ⟨gb250, 0, none⟩ (.int .i64 t239)).setCell ⟨gb250, 1, none⟩ (.int .i64 t240)).setCell ⟨gb250, 2, none⟩ (.bool t241)).setCell ⟨gb250, 3, none⟩ (.int .i64 t242)).setCell ⟨gb250, 4, none⟩ (.int .i64 t243)).setCell ⟨gb250, 5, none⟩ (.slice Ao73 t244.length co73)).setCell ⟨gb250, 6, none⟩ (.slice Ao74 t247.length co74))) := ⟨be_ HB⟩
       (try clear HO_224005)
       (try clear HO_224006)
       (try clear HO_236005)
       (try clear HO_236006)
       (try clear HO246)
       (try clear HO249)
       (try clear BK210)
       (try clear BK223)
       (try clear BK235)
       (try clear BK250)
       (try clear HB)
       generalize (((((((w68.setCell ⟨gb250, 0, none⟩ (.int .i64 t239)).setCell ⟨gb250, 1, none⟩ (.int .i64 t240)).setCell ⟨gb250, 2, none⟩ (.bool t241)).setCell ⟨gb250, 3, none⟩ (.int .i64 t242)).setCell ⟨gb250, 4, none⟩ (.int .i64 t243)).setCell ⟨gb250, 5, none⟩ (.slice Ao73 t244.length co73)).setCell ⟨gb250, 6, none⟩ (.slice Ao74 t247.length co74)) = w82 at n0_ n1_ n2_ n3_ n4_ n5_ n6_ n7_ n8_ n9_ n10_ ⊢
       have HO_224005 := n0_
       have HO_224006 := n1_
       have HO_236005 := n2_
       have HO_236006 := n3_
       have HO246 := n4_
       have HO249 := n5_
       have BK210 := n6_
       have BK223 := n7_
       have BK235 := n8_
       have BK250 := n9_
       have HB := n10_
       clear n0_ n1_ n2_ n3_ n4_ n5_ n6_ n7_ n8_ n9_ n10_
       have n0_ := Aside0.mk (Kd.R_drew HO_224005.out)
       have n1_ := Aside0.mk (Kd.R_drew HO_224006.out)
       have n2_ := Aside0.mk (Kd.R_drew HO_236005.out)
       have n3_ := Aside0.mk (Kd.R_drew HO_236006.out)
       have n4_ := Aside0.mk (Kd.R_drew HO246.out)
       have n5_ := Aside0.mk (Kd.R_drew HO249.out)
       have n6_ := Aside0.mk (blk_drew BK210.out)
       have n7_ := Aside0.mk (blk_drew BK223.out)
       have n8_ := Aside0.mk (blk_drew BK235.out)
       have n9_ := Aside0.mk (blk_drew BK250.out)
       have n10_ := Aside0.mk (below_drew1 HB.out)
       clear HO_224005
       clear HO_224006
       clear HO_236005
       clear HO_236006
       clear HO246
       clear HO249
       clear BK210
       clear BK223
       clear BK235
       clear BK250
       clear HB
       have HO_224005 := n0_
       have HO_224006 := n1_
       have HO_236005 := n2_
       have HO_236006 := n3_
       have HO246 := n4_
       have HO249 := n5_
       have BK210 := n6_
       have BK223 := n7_
       have BK235 := n8_
       have BK250 := n9_
       have HB := n10_
       clear n0_ n1_ n2_ n3_ n4_ n5_ n6_ n7_ n8_ n9_ n10_
       refine start_ (n := 16) (S := fun w' => w'.cell? ⟨gb250, 0, none⟩ = some (.int .i64 t239) ∧ w'.cell? ⟨gb250, 1, none⟩ = some (.int .i64 t240) ∧ w'.cell? ⟨gb250, 2, none⟩ = some (.bool t241) ∧ w'.cell? ⟨gb250, 3, none⟩ = some (.int .i64 t242) ∧ w'.cell? ⟨gb250, 4, none⟩ = some (.int .i64 t243) ∧ w'.cell? ⟨gb250, 5, none⟩ = some (.slice Ao73 t244.length co73) ∧ w'.cell? ⟨gb250, 6, none⟩ = some (.slice Ao74 t247.length co74) ∧ w'.cell? ⟨gb210, 0, none⟩ = some (.int .i64 a0_0) ∧ w'.cell? ⟨gb210, 1, none⟩ = some (.int .i64 a0_1) ∧ w'.cell? ⟨gb210, 2, none⟩ = some (.bool a0_2) ∧ w'.cell? ⟨gb210, 3, none⟩ = some (.int .i64 a0_3) ∧ w'.cell? ⟨gb210, 4, none⟩ = some (.int .i64 a0_4) ∧ w'.cell? ⟨gb210, 5, none⟩ = some (.slice A0_5 l0_5.length c0_5) ∧ w'.cell? ⟨gb210, 6, none⟩ = some (.slice A0_6 l0_6.length c0_6)) (ds := []) #[false, false, false, false, false, false, false, false, false, false, false, false, false, false, false, false] (by kernel_rfl) rfl rfl ⟨(blk_cell BK250.out 0).trans rfl, (blk_cell BK250.out 1).trans rfl, (blk_cell BK250.out 2).trans rfl, (blk_cell BK250.out 3).trans rfl, (blk_cell BK250.out 4).trans rfl, (blk_cell BK250.out 5).trans rfl, (blk_cell BK250.out 6).trans rfl, (blk_cell BK210.out 0).trans rfl, (blk_cell BK210.out 1).trans rfl, (blk_cell BK210.out 2).trans rfl, (blk_cell BK210.out 3).trans rfl, (blk_cell BK210.out 4).trans rfl, (blk_cell BK210.out 5).trans rfl, (blk_cell BK210.out 6).trans rfl⟩ (fun hHeld => ?_); refine with_tabW busbarlaw21_BudgetFits.tab13 busbarlaw21_BudgetFits.bits13 (fun HT_ HW_ => ?_)
       generalize w82.drew = w83 at HO_224005 HO_224006 HO_236005 HO_236006 HO246 HO249 BK210 BK223 BK235 BK250 HB hHeld ⊢
       refine pure_ (i := 0) (N := some 60) (v := ?_) (a' := ?_) #[true, false, false, false, false, false, false, false, false, false, false, false, false, false, false, false] rfl rfl (any_of HT_.out (by kernel_rfl)) (fun _ _ _ h => h) (Or.inl ⟨by rfl, ?_⟩) ?_ ?_
       rotate_left
       · intro w'
         go_simp
         with_reducible rfl
       rotate_left
       · simp only [Act.put, List.setIfInBounds_toArray, List.set_cons_zero, List.set_cons_succ, i64_w, i32_w]
         rfl
       refine pure_ (i := 3) (N := some 63) (v := ?_) (a' := ?_) #[true, false, false, true, false, false, false, false, false, false, false, false, false, false, false, false] rfl rfl (any_of HT_.out (by kernel_rfl)) (fun _ _ _ h => h) (Or.inl ⟨by rfl, ?_⟩) ?_ ?_
       rotate_left
       · intro w'
         go_simp
         with_reducible rfl
       rotate_left
       · simp only [Act.put, List.setIfInBounds_toArray, List.set_cons_zero, List.set_cons_succ, i64_w, i32_w]
         rfl
       refine take_ (i := 1) (N := some 61) (v := ?_) (a' := ?_) #[true, true, false, true, false, false, false, false, false, false, false, false, false, false, false, false] rfl rfl (take_ofW HT_.out HW_.out (by kernel_rfl)) (fun _ _ _ h => h) (Or.inl ⟨by rfl, ?_⟩) hHeld ?_ ?_
       rotate_left
       · rintro w' ⟨s0, s1, s2, s3, s4, s5, s6, s7, s8, s9, s10, s11, s12, s13⟩
         go_simp
         with_reducible rfl
       rotate_left
       · simp only [Act.put, List.setIfInBounds_toArray, List.set_cons_zero, List.set_cons_succ, i64_w, i32_w]
         rfl
       refine pure_ (i := 2) (N := some 62) (v := ?_) (a' := ?_) #[true, true, true, true, false, false, false, false, false, false, false, false, false, false, false, false] rfl rfl (any_of HT_.out (by kernel_rfl)) (fun _ _ _ h => h) (Or.inl ⟨by rfl, ?_⟩) ?_ ?_
       rotate_left
       · intro w'
         go_simp
         with_reducible rfl
       rotate_left
       · simp only [Act.put, List.setIfInBounds_toArray, List.set_cons_zero, List.set_cons_succ, i64_w, i32_w]
         rfl
       refine take_ (i := 4) (N := some 64) (v := ?_) (a' := ?_) #[true, true, true, true, true, false, false, false, false, false, false, false, false, false, false, false] rfl rfl (take_ofW HT_.out HW_.out (by kernel_rfl)) (fun _ _ _ h => h) (Or.inl ⟨by rfl, ?_⟩) hHeld ?_ ?_
       rotate_left
       · rintro w' ⟨s0, s1, s2, s3, s4, s5, s6, s7, s8, s9, s10, s11, s12, s13⟩
         go_simp
         with_reducible rfl
       rotate_left
       · simp only [Act.put, List.setIfInBounds_toArray, List.set_cons_zero, List.set_cons_succ, i64_w, i32_w]
         rfl
       refine pure_ (i := 5) (N := some 65) (v := ?_) (a' := ?_) #[true, true, true, true, true, true, false, false, false, false, false, false, false, false, false, false] rfl rfl (any_of HT_.out (by kernel_rfl)) (fun _ _ _ h => h) (Or.inl ⟨by rfl, ?_⟩) ?_ ?_
       rotate_left
       · intro w'
         go_simp
         with_reducible rfl
       rotate_left
       · simp only [Act.put, List.setIfInBounds_toArray, List.set_cons_zero, List.set_cons_succ, i64_w, i32_w]
         rfl
       refine pure_ (i := 6) (N := some 66) (v := ?_) (a' := ?_) #[true, true, true, true, true, true, true, false, false, false, false, false, false, false, false, false] rfl rfl (any_of HT_.out (by kernel_rfl)) (fun _ _ _ h => h) (Or.inl ⟨by rfl, ?_⟩) ?_ ?_
       rotate_left
       · intro w'
         go_simp
         with_reducible rfl
       rotate_left
       · simp only [Act.put, List.setIfInBounds_toArray, List.set_cons_zero, List.set_cons_succ, i64_w, i32_w]
         rfl
       refine pure_ (i := 7) (N := some 67) (v := ?_) (a' := ?_) #[true, true, true, true, true, true, true, true, false, false, false, false, false, false, false, false] rfl rfl (any_of HT_.out (by kernel_rfl)) (fun _ _ _ h => h) (Or.inl ⟨by rfl, ?_⟩) ?_ ?_
       rotate_left
       · intro w'
         go_simp
         with_reducible rfl
       rotate_left
       · simp only [Act.put, List.setIfInBounds_toArray, List.set_cons_zero, List.set_cons_succ, i64_w, i32_w]
         rfl
       refine pure_ (i := 8) (N := some 68) (v := undef) (a' := ?_) #[true, true, true, true, true, true, true, true, true, false, false, false, false, false, false, false] rfl rfl (any_of HT_.out (by kernel_rfl)) (fun _ _ _ h => h) (Or.inr ⟨by rfl, rfl⟩) ?_ ?_
       rotate_left
       · simp only [Act.put, List.setIfInBounds_toArray, List.set_cons_zero, List.set_cons_succ, i64_w, i32_w]
         rfl
       refine pure_ (i := 9) (N := some 69) (v := undef) (a' := ?_) #[true, true, true, true, true, true, true, true, true, true, false, false, false, false, false, false] rfl rfl (any_of HT_.out (by kernel_rfl)) (fun _ _ _ h => h) (Or.inr ⟨by rfl, rfl⟩) ?_ ?_
       rotate_left
       · simp only [Act.put, List.setIfInBounds_toArray, List.set_cons_zero, List.set_cons_succ, i64_w, i32_w]
         rfl
       refine pure_ (i := 10) (N := some 70) (v := undef) (a' := ?_) #[true, true, true, true, true, true, true, true, true, true, true, false, false, false, false, false] rfl rfl (any_of HT_.out (by kernel_rfl)) (fun _ _ _ h => h) (Or.inr ⟨by rfl, rfl⟩) ?_ ?_
       rotate_left
       · simp only [Act.put, List.setIfInBounds_toArray, List.set_cons_zero, List.set_cons_succ, i64_w, i32_w]
         rfl
       refine pure_ (i := 11) (N := some 71) (v := undef) (a' := ?_) #[true, true, true, true, true, true, true, true, true, true, true, true, false, false, false, false] rfl rfl (any_of HT_.out (by kernel_rfl)) (fun _ _ _ h => h) (Or.inr ⟨by rfl, rfl⟩) ?_ ?_
       rotate_left
       · simp only [Act.put, List.setIfInBounds_toArray, List.set_cons_zero, List.set_cons_succ, i64_w, i32_w]
         rfl
       refine pure_ (i := 12) (N := some 72) (v := undef) (a' := ?_) #[true, true, true, true, true, true, true, true, true, true, true, true, true, false, false, false] rfl rfl (any_of HT_.out (by kernel_rfl)) (fun _ _ _ h => h) (Or.inr ⟨by rfl, rfl⟩) ?_ ?_
       rotate_left
       · simp only [Act.put, List.setIfInBounds_toArray, List.set_cons_zero, List.set_cons_succ, i64_w, i32_w]
         rfl
       refine pure_ (i := 13) (N := some 73) (v := undef) (a' := ?_) #[true, true, true, true, true, true, true, true, true, true, true, true, true, true, false, false] rfl rfl (any_of HT_.out (by kernel_rfl)) (fun _ _ _ h => h) (Or.inr ⟨by rfl, rfl⟩) ?_ ?_
       rotate_left
       · simp only [Act.put, List.setIfInBounds_toArray, List.set_cons_zero, List.set_cons_succ, i64_w, i32_w]
         rfl
       refine pure_ (i := 14) (N := some 74) (v := undef) (a' := ?_) #[true, true, true, true, true, true, true, true, true, true, true, true, true, true, true, false] rfl rfl (any_of HT_.out (by kernel_rfl)) (fun _ _ _ h => h) (Or.inr ⟨by rfl, rfl⟩) ?_ ?_
       rotate_left
       · simp only [Act.put, List.setIfInBounds_toArray, List.set_cons_zero, List.set_cons_succ, i64_w, i32_w]
         rfl
       refine pure_ (i := 15) (N := some 75) (v := ?_) (a' := ?_) #[true, true, true, true, true, true, true, true, true, true, true, true, true, true, true, true] rfl rfl (any_of HT_.out (by kernel_rfl)) (fun _ _ _ h => h) (Or.inl ⟨by rfl, ?_⟩) ?_ ?_
       rotate_left
       · intro w'
         go_simp
         with_reducible rfl
       rotate_left
       · simp only [Act.put, List.setIfInBounds_toArray, List.set_cons_zero, List.set_cons_succ, i64_w, i32_w]
         rfl
       refine done_ (done_of HT_.out (by kernel_rfl)) ?_
       try go_wp2
       go_meet
       case rel => exact ⟨_, (true), (by first | rfl | (simp; done) | (simp [*]; done)), H', ⟨by have := HJ6.out; have := HK2.out; first | omega | exact Nat.le_refl _⟩, ⟨rk_ HO_224005⟩, ⟨rk_ HO_224006⟩, ⟨rk_ HO_236005⟩, ⟨rk_ HO_236006⟩, ⟨rk_ HO246⟩, ⟨rk_ HO249⟩, ⟨bk_ BK210⟩, ⟨bk_ BK223⟩, ⟨bk_ BK235⟩, ⟨bk_ BK250⟩, ⟨be_ HB⟩⟩
      clear HC61
      try clear c4
      try clear c48
      try clear c48b0
      try clear hcz64_0
      try clear hcz64_1
      try clear hcz64_2
      try clear hcz64_3
      try clear hcz64_4
      try clear hcz64_5
      try clear hcz64_6
      try clear hcz66_0
      try clear hcz66_1
      try clear hcz66_2
      try clear hcz66_3
      try clear hcz66_4
      try clear hcz66_5
      try clear hcz66_6
      try clear hfz64_0
      try clear hfz64_1
      try clear hfz64_2
      try clear hfz64_3
      try clear hfz64_4
      try clear hfz64_5
      try clear hfz64_6
      try clear hfz66_0
      try clear hfz66_1
      try clear hfz66_2
      try clear hfz66_3
      try clear hfz66_4
      try clear hfz66_5
      try clear hfz66_6
      obtain ⟨kq, x75_60, rfl, HA, HJ60, HO_224005, HO_224006, HO_236005, HO_236006, HO_251005, HO_251006, BK210, BK223, BK235, BK250, HB⟩ := hcut
      cases kq with
      | zero => exact absurd HA.out (by simp [busbarlaw21_BudgetFits.j2])
      | succ kj60 =>
       have H := HA.out
       clear HA
       simp only [busbarlaw21_BudgetFits.j2] at H
       by_cases c84 : x75_60 = true
       · subst c84
         have H1 : (some false) = some r := by rw [if_pos rfl] at H; exact H
         clear H
         have H := H1
         clear H1
         obtain rfl := Option.some.inj H
         go_wp2
         go_ret
         exact ⟨by first | rfl | (simp [errW_none, errW_some] <;> rfl) | (simp [*, errW_none, errW_some] <;> rfl), be_ HB⟩
       replace c84 := Bool.eq_false_iff.mpr c84
       subst c84
       have H1 : (if (t247.length : Int) > 0 then (if 0 < (t247.length : Int) then ((some (t247.set (0 : Int).toNat (⟨Go.bits .xor .i64 ((rd_T40 t247 0).f0) 1, (rd_T40 t247 0).f1, (rd_T40 t247 0).f2, (rd_T40 t247 0).f3⟩ : S40) : List (S40))).bind fun y254 => (if 0 < (l0_6.length : Int) then (if (((rd_T40 l0_6 0).f0) == ((rd_T40 y254 0).f0) && (((rd_T40 l0_6 0).f1) == ((rd_T40 y254 0).f1) && (((rd_T40 l0_6 0).f2) == ((rd_T40 y254 0).f2) && (((rd_T40 l0_6 0).f3) == ((rd_T40 y254 0).f3))))) = true then (some false) else (busbarlaw21_BudgetFits.j3 kj60 a1 a0_0 a0_1 a0_2 a0_3 a0_4 l0_5 l0_6 t212 t213 t214 t215 t216 t217 t220)) else (none))) else (none)) else (busbarlaw21_BudgetFits.j3 kj60 a1 a0_0 a0_1 a0_2 a0_3 a0_4 l0_5 l0_6 t212 t213 t214 t215 t216 t217 t220)) = some r := by rw [if_neg (show ¬ (false = true) by decide)] at H; exact H
       clear H
       have H := H1
       clear H1
       have HC85 := Aside0.mk H
       clear H
       have hnb86 := NB250_210.out
       have hnc86 := NB210_250.out
       have hnb87 := NB250_223.out
       have hnc87 := NB223_250.out
       have hnb88 := NB250_235.out
       have hnc88 := NB235_250.out
       obtain ⟨hcz89_0, hcz89_1, hcz89_2, hcz89_3, hcz89_4, hcz89_5, hcz89_6⟩ := bc7_ BK250
       obtain ⟨hfz89_0, hfz89_1, hfz89_2, hfz89_3, hfz89_4, hfz89_5, hfz89_6⟩ := bz7_ BK250
       go_upto_if 79 with (fail)
       go_cut [] (fun wc => ∃ (kq : Nat) (x224006_84 : List (S40)) (x236006_84 : List (S40)) (x251006_84 : List (S40)) (u224006 : Value) (u236006 : Value) (u251006 : Value), Aside0 (busbarlaw21_BudgetFits.j3 kq a1 a0_0 a0_1 a0_2 a0_3 a0_4 l0_5 l0_6 t212 t213 t214 t215 t216 t217 x224006_84 = some r) ∧ Aside0 (kq ≤ kj60) ∧ Aside0 (Kd.R (Kd.int .u8) 5 wc w.heap.size (fun k_ => some k_ ≠ ((.slice Ao23 t229.length co23) : Value).ownBlock ∧ some k_ ≠ ((.slice Ao73 t244.length co73) : Value).ownBlock) (.slice Ao16 t217.length co16) t217) ∧ Aside0 (Kd.R k40 40 wc w.heap.size (fun k_ => some k_ ≠ (u236006 : Value).ownBlock ∧ some k_ ≠ (u251006 : Value).ownBlock) u224006 x224006_84) ∧ Aside0 (Kd.R (Kd.int .u8) 5 wc w.heap.size (fun k_ => some k_ ≠ ((.slice Ao16 t217.length co16) : Value).ownBlock ∧ some k_ ≠ ((.slice Ao73 t244.length co73) : Value).ownBlock) (.slice Ao23 t229.length co23) t229) ∧ Aside0 (Kd.R k40 40 wc w.heap.size (fun k_ => some k_ ≠ (u224006 : Value).ownBlock ∧ some k_ ≠ (u251006 : Value).ownBlock) u236006 x236006_84) ∧ Aside0 (Kd.R (Kd.int .u8) 5 wc w.heap.size (fun k_ => some k_ ≠ ((.slice Ao16 t217.length co16) : Value).ownBlock ∧ some k_ ≠ ((.slice Ao23 t229.length co23) : Value).ownBlock) (.slice Ao73 t244.length co73) t244) ∧ Aside0 (Kd.R k40 40 wc w.heap.size (fun k_ => some k_ ≠ (u224006 : Value).ownBlock ∧ some k_ ≠ (u236006 : Value).ownBlock) u251006 x251006_84) ∧ Aside0 (wc.heap[gb210]? = some (.cells #[.int .i64 a0_0, .int .i64 a0_1, .bool a0_2, .int .i64 a0_3, .int .i64 a0_4, (.slice A0_5 l0_5.length c0_5), (.slice A0_6 l0_6.length c0_6)] 27 (0, 0))) ∧ Aside0 (wc.heap[gb223]? = some (.cells #[.int .i64 t212, .int .i64 t213, .bool t214, .int .i64 t215, .int .i64 t216, (.slice Ao16 t217.length co16), u224006] 27 (0, 0))) ∧ Aside0 (wc.heap[gb235]? = some (.cells #[.int .i64 t224, .int .i64 t225, .bool t226, .int .i64 t227, .int .i64 t228, (.slice Ao23 t229.length co23), u236006] 27 (0, 0))) ∧ Aside0 (wc.heap[gb250]? = some (.cells #[.int .i64 t239, .int .i64 t240, .bool t241, .int .i64 t242, .int .i64 t243, (.slice Ao73 t244.length co73), u251006] 27 (0, 0))) ∧ Aside0 (Below w.heap.size w wc))
       case first =>
        have H := HC85.out
        clear HC85
        by_cases c90 : (t247.length : Int) > 0
        · rw [if_pos c90] at H
          have c90b0 : decide (0 < (t247.length : Int)) = true := decide_eq_true c90
          have c90b1 : decide (0 < t247.length) = true := decide_eq_true (by omega)
          clear c90
          (first | rw [c90b0] | (simp only [i64_w, i32_w]; rw [c90b0]) | rw [c90b1] | skip)
          by_cases c91 : 0 < (t247.length : Int)
          · rw [if_pos c91] at H
            have c91b0 : decide (0 < (t247.length : Int)) = true := decide_eq_true c91
            have c91b1 : decide (0 < t247.length) = true := decide_eq_true (by omega)
            clear c91
            obtain ⟨y254, hy254⟩ : ∃ y_ : List (S40), y_ = (t247.set (0 : Int).toNat (⟨Go.bits .xor .i64 ((rd_T40 t247 0).f0) 1, (rd_T40 t247 0).f1, (rd_T40 t247 0).f2, (rd_T40 t247 0).f3⟩ : S40)) := ⟨_, rfl⟩
            replace H : (if 0 < (l0_6.length : Int) then (if (((rd_T40 l0_6 0).f0) == ((rd_T40 y254 0).f0) && (((rd_T40 l0_6 0).f1) == ((rd_T40 y254 0).f1) && (((rd_T40 l0_6 0).f2) == ((rd_T40 y254 0).f2) && (((rd_T40 l0_6 0).f3) == ((rd_T40 y254 0).f3))))) = true then (some false) else (busbarlaw21_BudgetFits.j3 kj60 a1 a0_0 a0_1 a0_2 a0_3 a0_4 l0_5 l0_6 t212 t213 t214 t215 t216 t217 t220)) else (none)) = some r := by first | (rw [hy254]; with_reducible exact H) | (have H2_ := (Option.bind_some _ _).symm.trans H; rw [hy254]; with_reducible exact H2_) | (have H2_ := (Option.bind_some _ _).symm.trans H; with_reducible exact H2_) | with_reducible exact H | (rw [hy254]; exact H) | exact H
            have Ny254 := Aside0.mk hy254
            clear hy254
            by_cases c93 : 0 < (l0_6.length : Int)
            · rw [if_pos c93] at H
              have c93b0 : decide (0 < (l0_6.length : Int)) = true := decide_eq_true c93
              have c93b1 : decide (0 < l0_6.length) = true := decide_eq_true (by omega)
              clear c93
              by_cases c94 : (((rd_T40 l0_6 0).f0) == ((rd_T40 y254 0).f0) && (((rd_T40 l0_6 0).f1) == ((rd_T40 y254 0).f1) && (((rd_T40 l0_6 0).f2) == ((rd_T40 y254 0).f2) && (((rd_T40 l0_6 0).f3) == ((rd_T40 y254 0).f3))))) = true
              · rw [if_pos c94] at H
                have c94b0 : (((rd_T40 l0_6 0).f0) == ((rd_T40 y254 0).f0) && (((rd_T40 l0_6 0).f1) == ((rd_T40 y254 0).f1) && (((rd_T40 l0_6 0).f2) == ((rd_T40 y254 0).f2) && (((rd_T40 l0_6 0).f3) == ((rd_T40 y254 0).f3))))) = true := c94
                (try (have c94b1 : decide (((rd_T40 l0_6 0).f0) = ((rd_T40 y254 0).f0) && (((rd_T40 l0_6 0).f1) == ((rd_T40 y254 0).f1) && (((rd_T40 l0_6 0).f2) == ((rd_T40 y254 0).f2) && (((rd_T40 l0_6 0).f3) == ((rd_T40 y254 0).f3))))) = true := by simpa using c94))
                (try (have c94b2 : (((rd_T40 l0_6 0).f0) == ((rd_T40 y254 0).f0) && (((rd_T40 l0_6 0).f1) == ((rd_T40 y254 0).f1) && (((rd_T40 l0_6 0).f2) == ((rd_T40 y254 0).f2) && (((rd_T40 l0_6 0).f3) == ((rd_T40 y254 0).f3))))) = true := by simpa using c94))
                clear c94
                obtain rfl := Option.some.inj H
                try go_wp2
                have n0_ := Aside0.mk (Kd.R_drew HO_224005.out)
                have n1_ := Aside0.mk (Kd.R_drew HO_224006.out)
                have n2_ := Aside0.mk (Kd.R_drew HO_236005.out)
                have n3_ := Aside0.mk (Kd.R_drew HO_236006.out)
                have n4_ := Aside0.mk (Kd.R_drew HO_251005.out)
                have n5_ := Aside0.mk (Kd.R_drew HO_251006.out)
                have n6_ := Aside0.mk (blk_drew BK210.out)
                have n7_ := Aside0.mk (blk_drew BK223.out)
                have n8_ := Aside0.mk (blk_drew BK235.out)
                have n9_ := Aside0.mk (blk_drew BK250.out)
                have n10_ := Aside0.mk (below_drew1 HB.out)
                clear HO_224005
                clear HO_224006
                clear HO_236005
                clear HO_236006
                clear HO_251005
                clear HO_251006
                clear BK210
                clear BK223
                clear BK235
                clear BK250
                clear HB
                have HO_224005 := n0_
                have HO_224006 := n1_
                have HO_236005 := n2_
                have HO_236006 := n3_
                have HO_251005 := n4_
                have HO_251006 := n5_
                have BK210 := n6_
                have BK223 := n7_
                have BK235 := n8_
                have BK250 := n9_
                have HB := n10_
                clear n0_ n1_ n2_ n3_ n4_ n5_ n6_ n7_ n8_ n9_ n10_
                have p253 : 0 ≤ (0 : Int) := (by omega)
                have q253 : 0 < (t247.length : Int) := of_decide_eq_true (by first | (with_reducible assumption) | assumption)
                obtain ⟨ad253, e253, hx253_0, hx253_1, hx253_2, hx253_3⟩ := at_T40 (Kd.R_reads' HO_251006.out).2.2 0 p253 q253
                cases e253
                have qi253 : (0 < t247.length) = True := eq_true (by omega)
                (try rw [show ((0 : Int)).toNat = 0 from rfl] at hx253_0)
                (try rw [show 0 * 4 = 0 from rfl] at hx253_0)
                (try rw [Addr.add_zero'] at hx253_0)
                (try rw [show ((0 : Int)).toNat = 0 from rfl] at hx253_1)
                (try rw [show 0 * 4 = 0 from rfl] at hx253_1)
                (try rw [Addr.add_zero'] at hx253_1)
                (try rw [show ((0 : Int)).toNat = 0 from rfl] at hx253_2)
                (try rw [show 0 * 4 = 0 from rfl] at hx253_2)
                (try rw [Addr.add_zero'] at hx253_2)
                (try rw [show ((0 : Int)).toNat = 0 from rfl] at hx253_3)
                (try rw [show 0 * 4 = 0 from rfl] at hx253_3)
                (try rw [Addr.add_zero'] at hx253_3)
                replace p253 := eq_true p253
                replace q253 := eq_true q253
                have p92 : 0 ≤ (0 : Int) := (by omega)
                have q92 : (0 : Int) < ((t247.length : Int) : Int) := of_decide_eq_true (by first | (with_reducible assumption) | assumption)
                have qi92 : (0 < t247.length) = True := eq_true (by omega)
                obtain ⟨go92, co92, eo92, gb92, gl92, cl92, HG92⟩ := Kd.R_form HO_251006.out (by omega)
                (first | cases eo92 | (injection eo92 with ea_ en_ ec_; (first | subst ea_ | (injection ea_ with ea_; subst ea_)); subst ec_; clear en_))
                have GB92 := Aside0.mk gb92
                have GG92 := Aside0.mk HG92
                clear gb92 gl92 HG92
                (first | simp only [add_plain] at hx253_0 | skip)
                (first | simp only [add_plain] at hx253_1 | skip)
                (first | simp only [add_plain] at hx253_2 | skip)
                (first | simp only [add_plain] at hx253_3 | skip)
                obtain ⟨ce92, hcl92, hM92, hcc92, hfr92⟩ := Kd.R_elem HO_251006.out z40 (0 : Int) p92 q92
                obtain rfl := k40_openM hM92
                have hx92_0 : World.cell? _ ⟨go92, (0 : Int).toNat * 4, none⟩ = some (.int .i64 ((rd_T40 t247 0).f0)) := hcc92 0 _ rfl
                have hx92_1 : World.cell? _ ⟨go92, (0 : Int).toNat * 4 + 1, none⟩ = some (.bool ((rd_T40 t247 0).f1)) := hcc92 1 _ rfl
                have hx92_2 : World.cell? _ ⟨go92, (0 : Int).toNat * 4 + 2, none⟩ = some (.int .i64 ((rd_T40 t247 0).f2)) := hcc92 2 _ rfl
                have hx92_3 : World.cell? _ ⟨go92, (0 : Int).toNat * 4 + 3, none⟩ = some (.int .i64 ((rd_T40 t247 0).f3)) := hcc92 3 _ rfl
                have hf92_0 : World.frozen? _ ⟨go92, (0 : Int).toNat * 4, none⟩ = false := hfr92 0
                have hf92_1 : World.frozen? _ ⟨go92, (0 : Int).toNat * 4 + 1, none⟩ = false := hfr92 1
                have hf92_2 : World.frozen? _ ⟨go92, (0 : Int).toNat * 4 + 2, none⟩ = false := hfr92 2
                have hf92_3 : World.frozen? _ ⟨go92, (0 : Int).toNat * 4 + 3, none⟩ = false := hfr92 3
                clear hcl92 hcc92 hfr92 hM92
                (try rw [show ((0 : Int)).toNat = 0 from rfl] at hx92_0)
                (try simp only [Nat.reduceMul, Nat.zero_mul, Nat.zero_add, Nat.reduceAdd] at hx92_0)
                (try rw [show ((0 : Int)).toNat = 0 from rfl] at hf92_0)
                (try simp only [Nat.reduceMul, Nat.zero_mul, Nat.zero_add, Nat.reduceAdd] at hf92_0)
                (try rw [show ((0 : Int)).toNat = 0 from rfl] at hx92_1)
                (try simp only [Nat.reduceMul, Nat.zero_mul, Nat.zero_add, Nat.reduceAdd] at hx92_1)
                (try rw [show ((0 : Int)).toNat = 0 from rfl] at hf92_1)
                (try simp only [Nat.reduceMul, Nat.zero_mul, Nat.zero_add, Nat.reduceAdd] at hf92_1)
                (try rw [show ((0 : Int)).toNat = 0 from rfl] at hx92_2)
                (try simp only [Nat.reduceMul, Nat.zero_mul, Nat.zero_add, Nat.reduceAdd] at hx92_2)
                (try rw [show ((0 : Int)).toNat = 0 from rfl] at hf92_2)
                (try simp only [Nat.reduceMul, Nat.zero_mul, Nat.zero_add, Nat.reduceAdd] at hf92_2)
                (try rw [show ((0 : Int)).toNat = 0 from rfl] at hx92_3)
                (try simp only [Nat.reduceMul, Nat.zero_mul, Nat.zero_add, Nat.reduceAdd] at hx92_3)
                (try rw [show ((0 : Int)).toNat = 0 from rfl] at hf92_3)
                (try simp only [Nat.reduceMul, Nat.zero_mul, Nat.zero_add, Nat.reduceAdd] at hf92_3)
                replace p92 := eq_true p92
                replace q92 := eq_true q92
                obtain ⟨ce96, hcl96, hM96, hcc96, hfr96⟩ := Kd.R_elem HO_251006.out z40 (0 : Int) (by omega) (by have h_ : (0 : Int) < ((t247.length : Int) : Int) := of_decide_eq_true (by first | (with_reducible assumption) | assumption); first | exact h_ | (have e_ := (Kd.R_reads' HO_251006.out).1; omega) | simpa using h_)
                obtain rfl := k40_openM hM96
                have HP96 := (Kd.R_seg HO_251006.out (0 : Int) (by omega) (by have h_ : (0 : Int) < ((t247.length : Int) : Int) := of_decide_eq_true (by first | (with_reducible assumption) | assumption); first | exact h_ | (have e_ := (Kd.R_reads' HO_251006.out).1; omega) | simpa using h_) (seg := [.int .i64 (Go.bits .xor .i64 ((rd_T40 t247 0).f0) 1)]) (j := 0) hcl96 hcc96 (show 1 ≤ 4 from by decide) (x' := (⟨Go.bits .xor .i64 ((rd_T40 t247 0).f0) 1, (rd_T40 t247 0).f1, (rd_T40 t247 0).f2, (rd_T40 t247 0).f3⟩ : S40)) (k40_mkM _ _ _ (⟨Go.bits .xor .i64 ((rd_T40 t247 0).f0) 1, (rd_T40 t247 0).f1, (rd_T40 t247 0).f2, (rd_T40 t247 0).f3⟩ : S40) ) (fun _ hk => hk)).1
                rw [← Ny254.out] at HP96
                have HQ96 := Aside0.mk HP96
                clear hcl96 hcc96 hfr96 hM96 HP96
                refine start_ (n := 11) (S := fun w' => w'.cell? ⟨gb250, 0, none⟩ = some (.int .i64 t239) ∧ w'.cell? ⟨gb250, 1, none⟩ = some (.int .i64 t240) ∧ w'.cell? ⟨gb250, 2, none⟩ = some (.bool t241) ∧ w'.cell? ⟨gb250, 3, none⟩ = some (.int .i64 t242) ∧ w'.cell? ⟨gb250, 4, none⟩ = some (.int .i64 t243) ∧ w'.cell? ⟨gb250, 5, none⟩ = some (.slice Ao73 t244.length co73) ∧ w'.cell? ⟨gb250, 6, none⟩ = some (.slice (some ⟨go92, 0, none⟩) t247.length co74) ∧ w'.cell? ⟨go92, 0, none⟩ = some (.int .i64 ((rd_T40 t247 0).f0)) ∧ w'.cell? ⟨go92, 1, none⟩ = some (.bool ((rd_T40 t247 0).f1)) ∧ w'.cell? ⟨go92, 2, none⟩ = some (.int .i64 ((rd_T40 t247 0).f2)) ∧ w'.cell? ⟨go92, 3, none⟩ = some (.int .i64 ((rd_T40 t247 0).f3))) (ds := [10]) #[false, false, false, false, false, false, false, false, false, false, false] (by kernel_rfl) rfl rfl ⟨(blk_cell BK250.out 0).trans rfl, (blk_cell BK250.out 1).trans rfl, (blk_cell BK250.out 2).trans rfl, (blk_cell BK250.out 3).trans rfl, (blk_cell BK250.out 4).trans rfl, (blk_cell BK250.out 5).trans rfl, (blk_cell BK250.out 6).trans rfl, hx253_0, hx253_1, hx253_2, hx253_3⟩ (fun hHeld => ?_); refine with_tabW busbarlaw21_BudgetFits.tab16 busbarlaw21_BudgetFits.bits16 (fun HT_ HW_ => ?_)
                generalize wc.drew = w95 at HO_224005 HO_224006 HO_236005 HO_236006 HO_251005 HO_251006 BK210 BK223 BK235 BK250 HB GG92 HQ96 hf92_0 hf92_1 hf92_2 hf92_3 hx253_0 hx253_1 hx253_2 hx253_3 hx92_0 hx92_1 hx92_2 hx92_3 hHeld ⊢
                refine pure_ (i := 0) (N := some 80) (v := ?_) (a' := ?_) #[true, false, false, false, false, false, false, false, false, false, false] rfl rfl (any_of HT_.out (by kernel_rfl)) (fun _ _ _ h => h) (Or.inl ⟨by rfl, ?_⟩) ?_ ?_
                rotate_left
                · intro w'
                  go_simp
                  with_reducible rfl
                rotate_left
                · simp only [Act.put, List.setIfInBounds_toArray, List.set_cons_zero, List.set_cons_succ, i64_w, i32_w]
                  rfl
                refine pure_ (i := 2) (N := some 82) (v := ?_) (a' := ?_) #[true, false, true, false, false, false, false, false, false, false, false] rfl rfl (any_of HT_.out (by kernel_rfl)) (fun _ _ _ h => h) (Or.inl ⟨by rfl, ?_⟩) ?_ ?_
                rotate_left
                · intro w'
                  go_simp
                  with_reducible rfl
                rotate_left
                · simp only [Act.put, List.setIfInBounds_toArray, List.set_cons_zero, List.set_cons_succ, i64_w, i32_w]
                  rfl
                refine take_ (i := 1) (N := some 81) (v := ?_) (a' := ?_) #[true, true, true, false, false, false, false, false, false, false, false] rfl rfl (take_ofW HT_.out HW_.out (by kernel_rfl)) (fun _ _ _ h => h) (Or.inl ⟨by rfl, ?_⟩) hHeld ?_ ?_
                rotate_left
                · rintro w' ⟨s0, s1, s2, s3, s4, s5, s6, s7, s8, s9, s10⟩
                  go_simp
                  with_reducible rfl
                rotate_left
                · simp only [Act.put, List.setIfInBounds_toArray, List.set_cons_zero, List.set_cons_succ, i64_w, i32_w]
                  rfl
                refine take_ (i := 3) (N := some 83) (v := ?_) (a' := ?_) #[true, true, true, true, false, false, false, false, false, false, false] rfl rfl (take_ofW HT_.out HW_.out (by kernel_rfl)) (fun _ _ _ h => h) (Or.inl ⟨by rfl, ?_⟩) hHeld ?_ ?_
                rotate_left
                · rintro w' ⟨s0, s1, s2, s3, s4, s5, s6, s7, s8, s9, s10⟩
                  go_simp
                  with_reducible rfl
                rotate_left
                · simp only [Act.put, List.setIfInBounds_toArray, List.set_cons_zero, List.set_cons_succ, i64_w, i32_w]
                  rfl
                refine pure_ (i := 4) (N := some 84) (v := ?_) (a' := ?_) #[true, true, true, true, true, false, false, false, false, false, false] rfl rfl (any_of HT_.out (by kernel_rfl)) (fun _ _ _ h => h) (Or.inl ⟨by rfl, ?_⟩) ?_ ?_
                rotate_left
                · intro w'
                  go_simp
                  with_reducible rfl
                rotate_left
                · simp only [Act.put, List.setIfInBounds_toArray, List.set_cons_zero, List.set_cons_succ, i64_w, i32_w]
                  rfl
                refine pure_ (i := 5) (N := some 85) (v := ?_) (a' := ?_) #[true, true, true, true, true, true, false, false, false, false, false] rfl rfl (any_of HT_.out (by kernel_rfl)) (fun _ _ _ h => h) (Or.inl ⟨by rfl, ?_⟩) ?_ ?_
                rotate_left
                · intro w'
                  go_simp
                  with_reducible rfl
                rotate_left
                · simp only [Act.put, List.setIfInBounds_toArray, List.set_cons_zero, List.set_cons_succ, i64_w, i32_w]
                  rfl
                refine take_ (i := 6) (N := some 86) (v := ?_) (a' := ?_) #[true, true, true, true, true, true, true, false, false, false, false] rfl rfl (take_ofW HT_.out HW_.out (by kernel_rfl)) (fun _ _ _ h => h) (Or.inl ⟨by rfl, ?_⟩) hHeld ?_ ?_
                rotate_left
                · rintro w' ⟨s0, s1, s2, s3, s4, s5, s6, s7, s8, s9, s10⟩
                  go_simp
                  with_reducible rfl
                rotate_left
                · simp only [Act.put, List.setIfInBounds_toArray, List.set_cons_zero, List.set_cons_succ, i64_w, i32_w]
                  rfl
                refine pure_ (i := 7) (N := some 87) (v := ?_) (a' := ?_) #[true, true, true, true, true, true, true, true, false, false, false] rfl rfl (any_of HT_.out (by kernel_rfl)) (fun _ _ _ h => h) (Or.inl ⟨by rfl, ?_⟩) ?_ ?_
                rotate_left
                · intro w'
                  go_simp
                  with_reducible rfl
                rotate_left
                · simp only [Act.put, List.setIfInBounds_toArray, List.set_cons_zero, List.set_cons_succ, i64_w, i32_w]
                  rfl
                refine pure_ (i := 8) (N := some 88) (v := ?_) (a' := ?_) #[true, true, true, true, true, true, true, true, true, false, false] rfl rfl (any_of HT_.out (by kernel_rfl)) (fun _ _ _ h => h) (Or.inl ⟨by rfl, ?_⟩) ?_ ?_
                rotate_left
                · intro w'
                  go_simp
                  with_reducible rfl
                rotate_left
                · simp only [Act.put, List.setIfInBounds_toArray, List.set_cons_zero, List.set_cons_succ, i64_w, i32_w]
                  rfl
                refine pure_ (i := 9) (N := some 89) (v := ?_) (a' := ?_) #[true, true, true, true, true, true, true, true, true, true, false] rfl rfl (any_of HT_.out (by kernel_rfl)) (fun _ _ _ h => h) (Or.inl ⟨by rfl, ?_⟩) ?_ ?_
                rotate_left
                · intro w'
                  go_simp
                  with_reducible rfl
                rotate_left
                · simp only [Act.put, List.setIfInBounds_toArray, List.set_cons_zero, List.set_cons_succ, i64_w, i32_w]
                  rfl
                refine last_ (i := 10) (N := none) #[true, true, true, true, true, true, true, true, true, true, true] rfl rfl (one_of HT_.out (by kernel_rfl)) (by decide) (fun K hK => ?_)
                refine skip_ (w1 := ?_) (by rfl) rfl ?_ ?_
                rotate_left
                · go_simp
                  rfl
                refine hK.out _ _ ?_
                clear hK K
                refine done_ (done_of HT_.out (by kernel_rfl)) ?_
                try go_wp2
                have n0_ : Aside0 (Kd.R (Kd.int .u8) 5 (w95.setCell ⟨go92, 0, none⟩ (.int .i64 (Go.bits .xor .i64 ((rd_T40 t247 0).f0) 1))) w.heap.size (fun k_ => some k_ ≠ (.slice Ao23 t229.length co23 : Value).ownBlock ∧ some k_ ≠ (.slice Ao73 t244.length co73 : Value).ownBlock) (.slice Ao16 t217.length co16) t217) := ⟨by (with_reducible repeat (first | apply Kd.R_alloc | apply Kd.R_drewN | apply Kd.R_drew)); exact Kd.R_mono (Kd.R_far (p := ⟨go92, 0, none⟩) (Kd.R_types HO_224005.out GG92.out (by decide)) (fun _ hk => hk.2) (.int .i64 (Go.bits .xor .i64 ((rd_T40 t247 0).f0) 1))) (fun _ hk => ⟨hk.1.1, hk.1.2⟩)⟩
                have n1_ : Aside0 (Kd.R k40 40 (w95.setCell ⟨go92, 0, none⟩ (.int .i64 (Go.bits .xor .i64 ((rd_T40 t247 0).f0) 1))) w.heap.size (fun k_ => some k_ ≠ (.slice Ao24 t232.length co24 : Value).ownBlock ∧ some k_ ≠ (.slice (some ⟨go92, 0, none⟩) t247.length co74 : Value).ownBlock) (.slice Ao17 t220.length co17) t220) := ⟨by (with_reducible repeat (first | apply Kd.R_alloc | apply Kd.R_drewN | apply Kd.R_drew)); exact Kd.R_mono (Kd.R_far (p := ⟨go92, 0, none⟩) (Kd.R_mono HO_224006.out (fun k_ hk => (⟨hk, fun e_ => hk.2 (by rw [e_]; rfl)⟩ : _ ∧ k_ ≠ go92))) (fun _ hk => hk.2) (.int .i64 (Go.bits .xor .i64 ((rd_T40 t247 0).f0) 1))) (fun _ hk => ⟨hk.1.1, hk.1.2⟩)⟩
                have n2_ : Aside0 (Kd.R (Kd.int .u8) 5 (w95.setCell ⟨go92, 0, none⟩ (.int .i64 (Go.bits .xor .i64 ((rd_T40 t247 0).f0) 1))) w.heap.size (fun k_ => some k_ ≠ (.slice Ao16 t217.length co16 : Value).ownBlock ∧ some k_ ≠ (.slice Ao73 t244.length co73 : Value).ownBlock) (.slice Ao23 t229.length co23) t229) := ⟨by (with_reducible repeat (first | apply Kd.R_alloc | apply Kd.R_drewN | apply Kd.R_drew)); exact Kd.R_mono (Kd.R_far (p := ⟨go92, 0, none⟩) (Kd.R_types HO_236005.out GG92.out (by decide)) (fun _ hk => hk.2) (.int .i64 (Go.bits .xor .i64 ((rd_T40 t247 0).f0) 1))) (fun _ hk => ⟨hk.1.1, hk.1.2⟩)⟩
                have n3_ : Aside0 (Kd.R k40 40 (w95.setCell ⟨go92, 0, none⟩ (.int .i64 (Go.bits .xor .i64 ((rd_T40 t247 0).f0) 1))) w.heap.size (fun k_ => some k_ ≠ (.slice Ao17 t220.length co17 : Value).ownBlock ∧ some k_ ≠ (.slice (some ⟨go92, 0, none⟩) t247.length co74 : Value).ownBlock) (.slice Ao24 t232.length co24) t232) := ⟨by (with_reducible repeat (first | apply Kd.R_alloc | apply Kd.R_drewN | apply Kd.R_drew)); exact Kd.R_mono (Kd.R_far (p := ⟨go92, 0, none⟩) (Kd.R_mono HO_236006.out (fun k_ hk => (⟨hk, fun e_ => hk.2 (by rw [e_]; rfl)⟩ : _ ∧ k_ ≠ go92))) (fun _ hk => hk.2) (.int .i64 (Go.bits .xor .i64 ((rd_T40 t247 0).f0) 1))) (fun _ hk => ⟨hk.1.1, hk.1.2⟩)⟩
                have n4_ : Aside0 (Kd.R (Kd.int .u8) 5 (w95.setCell ⟨go92, 0, none⟩ (.int .i64 (Go.bits .xor .i64 ((rd_T40 t247 0).f0) 1))) w.heap.size (fun k_ => some k_ ≠ (.slice Ao16 t217.length co16 : Value).ownBlock ∧ some k_ ≠ (.slice Ao23 t229.length co23 : Value).ownBlock) (.slice Ao73 t244.length co73) t244) := ⟨by (with_reducible repeat (first | apply Kd.R_alloc | apply Kd.R_drewN | apply Kd.R_drew)); exact Kd.R_mono (Kd.R_far (p := ⟨go92, 0, none⟩) (Kd.R_types HO_251005.out GG92.out (by decide)) (fun _ hk => hk.2) (.int .i64 (Go.bits .xor .i64 ((rd_T40 t247 0).f0) 1))) (fun _ hk => ⟨hk.1.1, hk.1.2⟩)⟩
                have n5_ : Aside0 (Kd.R k40 40 (w95.setCell ⟨go92, 0, none⟩ (.int .i64 (Go.bits .xor .i64 ((rd_T40 t247 0).f0) 1))) w.heap.size (fun k_ => some k_ ≠ (.slice Ao17 t220.length co17 : Value).ownBlock ∧ some k_ ≠ (.slice Ao24 t232.length co24 : Value).ownBlock) (.slice (some ⟨go92, 0, none⟩) t247.length co74) y254) := ⟨rk_ HQ96⟩
                have n6_ : Aside0 ((w95.setCell ⟨go92, 0, none⟩ (.int .i64 (Go.bits .xor .i64 ((rd_T40 t247 0).f0) 1))).heap[gb210]? = some (.cells #[.int .i64 a0_0, .int .i64 a0_1, .bool a0_2, .int .i64 a0_3, .int .i64 a0_4, .slice A0_5 l0_5.length c0_5, .slice A0_6 l0_6.length c0_6] 27 (0, 0))) := ⟨by (with_reducible repeat (first | refine blk_drewN ?_ _ | refine blk_drew ?_ | refine blk_alloc ?_ _)); refine blk_far ?_ (by have h_ := Kd.R_ne HO_251006.out BK210.out (by decide); intro e_; exact h_ (by rw [e_]; rfl)) _; (with_reducible repeat (first | refine blk_drewN ?_ _ | refine blk_drew ?_ | refine blk_alloc ?_ _)); exact BK210.out⟩
                have n7_ : Aside0 ((w95.setCell ⟨go92, 0, none⟩ (.int .i64 (Go.bits .xor .i64 ((rd_T40 t247 0).f0) 1))).heap[gb223]? = some (.cells #[.int .i64 t212, .int .i64 t213, .bool t214, .int .i64 t215, .int .i64 t216, .slice Ao16 t217.length co16, .slice Ao17 t220.length co17] 27 (0, 0))) := ⟨by (with_reducible repeat (first | refine blk_drewN ?_ _ | refine blk_drew ?_ | refine blk_alloc ?_ _)); refine blk_far ?_ (by have h_ := Kd.R_ne HO_251006.out BK223.out (by decide); intro e_; exact h_ (by rw [e_]; rfl)) _; (with_reducible repeat (first | refine blk_drewN ?_ _ | refine blk_drew ?_ | refine blk_alloc ?_ _)); exact BK223.out⟩
                have n8_ : Aside0 ((w95.setCell ⟨go92, 0, none⟩ (.int .i64 (Go.bits .xor .i64 ((rd_T40 t247 0).f0) 1))).heap[gb235]? = some (.cells #[.int .i64 t224, .int .i64 t225, .bool t226, .int .i64 t227, .int .i64 t228, .slice Ao23 t229.length co23, .slice Ao24 t232.length co24] 27 (0, 0))) := ⟨by (with_reducible repeat (first | refine blk_drewN ?_ _ | refine blk_drew ?_ | refine blk_alloc ?_ _)); refine blk_far ?_ (by have h_ := Kd.R_ne HO_251006.out BK235.out (by decide); intro e_; exact h_ (by rw [e_]; rfl)) _; (with_reducible repeat (first | refine blk_drewN ?_ _ | refine blk_drew ?_ | refine blk_alloc ?_ _)); exact BK235.out⟩
                have n9_ : Aside0 ((w95.setCell ⟨go92, 0, none⟩ (.int .i64 (Go.bits .xor .i64 ((rd_T40 t247 0).f0) 1))).heap[gb250]? = some (.cells #[.int .i64 t239, .int .i64 t240, .bool t241, .int .i64 t242, .int .i64 t243, .slice Ao73 t244.length co73, .slice (some ⟨go92, 0, none⟩) t247.length co74] 27 (0, 0))) := ⟨by (with_reducible repeat (first | refine blk_drewN ?_ _ | refine blk_drew ?_ | refine blk_alloc ?_ _)); refine blk_far ?_ (by have h_ := Kd.R_ne HO_251006.out BK250.out (by decide); intro e_; exact h_ (by rw [e_]; rfl)) _; (with_reducible repeat (first | refine blk_drewN ?_ _ | refine blk_drew ?_ | refine blk_alloc ?_ _)); exact BK250.out⟩
                have n10_ : Aside0 (Below w.heap.size w (w95.setCell ⟨go92, 0, none⟩ (.int .i64 (Go.bits .xor .i64 ((rd_T40 t247 0).f0) 1)))) := ⟨by repeat (first | (with_reducible first | exact HB.out | apply below_alloc | apply pw_below_drewN | apply below_drew1 | refine below_set ?_ GB92.out | refine below_set ?_ GE210.out | refine below_set ?_ GE223.out | refine below_set ?_ GE235.out | refine below_set ?_ GE250.out) | exact HB.out)⟩
                (try clear HO_224005)
                (try clear HO_224006)
                (try clear HO_236005)
                (try clear HO_236006)
                (try clear HO_251005)
                (try clear HO_251006)
                (try clear BK210)
                (try clear BK223)
                (try clear BK235)
                (try clear BK250)
                (try clear HB)
                generalize (w95.setCell ⟨go92, 0, none⟩ (.int .i64 (Go.bits .xor .i64 ((rd_T40 t247 0).f0) 1))) = w97 at n0_ n1_ n2_ n3_ n4_ n5_ n6_ n7_ n8_ n9_ n10_ ⊢
                have HO_224005 := n0_
                have HO_224006 := n1_
                have HO_236005 := n2_
                have HO_236006 := n3_
                have HO_251005 := n4_
                have HO_251006 := n5_
                have BK210 := n6_
                have BK223 := n7_
                have BK235 := n8_
                have BK250 := n9_
                have HB := n10_
                clear n0_ n1_ n2_ n3_ n4_ n5_ n6_ n7_ n8_ n9_ n10_
                have n0_ := Aside0.mk (Kd.R_drew HO_224005.out)
                have n1_ := Aside0.mk (Kd.R_drew HO_224006.out)
                have n2_ := Aside0.mk (Kd.R_drew HO_236005.out)
                have n3_ := Aside0.mk (Kd.R_drew HO_236006.out)
                have n4_ := Aside0.mk (Kd.R_drew HO_251005.out)
                have n5_ := Aside0.mk (Kd.R_drew HO_251006.out)
                have n6_ := Aside0.mk (blk_drew BK210.out)
                have n7_ := Aside0.mk (blk_drew BK223.out)
                have n8_ := Aside0.mk (blk_drew BK235.out)
                have n9_ := Aside0.mk (blk_drew BK250.out)
                have n10_ := Aside0.mk (below_drew1 HB.out)
                clear HO_224005
                clear HO_224006
                clear HO_236005
                clear HO_236006
                clear HO_251005
                clear HO_251006
                clear BK210
                clear BK223
                clear BK235
                clear BK250
                clear HB
                have HO_224005 := n0_
                have HO_224006 := n1_
                have HO_236005 := n2_
                have HO_236006 := n3_
                have HO_251005 := n4_
                have HO_251006 := n5_
                have BK210 := n6_
                have BK223 := n7_
                have BK235 := n8_
                have BK250 := n9_
                have HB := n10_
                clear n0_ n1_ n2_ n3_ n4_ n5_ n6_ n7_ n8_ n9_ n10_
                have p255 : 0 ≤ (0 : Int) := (by omega)
                have q255 : 0 < (l0_6.length : Int) := of_decide_eq_true (by first | (with_reducible assumption) | assumption)
                obtain ⟨ad255, e255, hx255_0, hx255_1, hx255_2, hx255_3⟩ := at_T40 HR0_6.out 0 p255 q255
                have hw255_3 := hx255_3
                (try rw [show ((0 : Int)).toNat = 0 from rfl] at hw255_3)
                (try rw [show 0 * 4 = 0 from rfl] at hw255_3)
                (try rw [Addr.add_zero'] at hw255_3)
                have hw255_2 := hx255_2
                (try rw [show ((0 : Int)).toNat = 0 from rfl] at hw255_2)
                (try rw [show 0 * 4 = 0 from rfl] at hw255_2)
                (try rw [Addr.add_zero'] at hw255_2)
                have hw255_1 := hx255_1
                (try rw [show ((0 : Int)).toNat = 0 from rfl] at hw255_1)
                (try rw [show 0 * 4 = 0 from rfl] at hw255_1)
                (try rw [Addr.add_zero'] at hw255_1)
                have hw255_0 := hx255_0
                (try rw [show ((0 : Int)).toNat = 0 from rfl] at hw255_0)
                (try rw [show 0 * 4 = 0 from rfl] at hw255_0)
                (try rw [Addr.add_zero'] at hw255_0)
                cases e255
                have qi255 : (0 < l0_6.length) = True := eq_true (by omega)
                (try rw [show ((0 : Int)).toNat = 0 from rfl] at hx255_0)
                (try rw [show 0 * 4 = 0 from rfl] at hx255_0)
                (try rw [Addr.add_zero'] at hx255_0)
                (try rw [show ((0 : Int)).toNat = 0 from rfl] at hx255_1)
                (try rw [show 0 * 4 = 0 from rfl] at hx255_1)
                (try rw [Addr.add_zero'] at hx255_1)
                (try rw [show ((0 : Int)).toNat = 0 from rfl] at hx255_2)
                (try rw [show 0 * 4 = 0 from rfl] at hx255_2)
                (try rw [Addr.add_zero'] at hx255_2)
                (try rw [show ((0 : Int)).toNat = 0 from rfl] at hx255_3)
                (try rw [show 0 * 4 = 0 from rfl] at hx255_3)
                (try rw [Addr.add_zero'] at hx255_3)
                replace hx255_0 := (HB.out.cell (World.block_lt_of_cell? w _ hx255_0)).trans hx255_0
                replace hx255_1 := (HB.out.cell (World.block_lt_of_cell? w _ hx255_1)).trans hx255_1
                replace hx255_2 := (HB.out.cell (World.block_lt_of_cell? w _ hx255_2)).trans hx255_2
                replace hx255_3 := (HB.out.cell (World.block_lt_of_cell? w _ hx255_3)).trans hx255_3
                replace p255 := eq_true p255
                replace q255 := eq_true q255
                have p256 : 0 ≤ (0 : Int) := (by omega)
                have q256 : 0 < (y254.length : Int) := (by have h_ : (0 : Int) < ((t247.length : Int) : Int) := of_decide_eq_true (by first | (with_reducible assumption) | assumption); first | (have e_ := (Kd.R_reads' HO_251006.out).1; omega) | simpa only [Ny254.out, List.length_set] using h_)
                have ql256 : ((0 : Int) < ((t247.length : Int) : Int)) = True := eq_true (of_decide_eq_true (by first | (with_reducible assumption) | assumption))
                (try have qn256 : (0 < t247.length) = True := eq_true (by have h_ : (0 : Int) < ((t247.length : Int) : Int) := of_decide_eq_true (by first | (with_reducible assumption) | assumption); omega))
                obtain ⟨ad256, e256, hx256_0, hx256_1, hx256_2, hx256_3⟩ := at_T40 (Kd.R_reads' HO_251006.out).2.2 0 p256 q256
                obtain rfl : (⟨go92, 0, none⟩ : Addr) = ad256 := (by injection e256)
                (first | simp only [add_plain] at hx256_0 | simp only [add_at] at hx256_0 | simp only [Addr.add, Nat.zero_add] at hx256_0 | skip)
                (first | simp only [add_plain] at hx256_1 | simp only [add_at] at hx256_1 | simp only [Addr.add, Nat.zero_add] at hx256_1 | skip)
                (first | simp only [add_plain] at hx256_2 | simp only [add_at] at hx256_2 | simp only [Addr.add, Nat.zero_add] at hx256_2 | skip)
                (first | simp only [add_plain] at hx256_3 | simp only [add_at] at hx256_3 | simp only [Addr.add, Nat.zero_add] at hx256_3 | skip)
                have qi256 : (0 < y254.length) = True := eq_true (by omega)
                (try rw [show ((0 : Int)).toNat = 0 from rfl] at hx256_0)
                (try rw [show 0 * 4 = 0 from rfl] at hx256_0)
                (try rw [Addr.add_zero'] at hx256_0)
                (try rw [show ((0 : Int)).toNat = 0 from rfl] at hx256_1)
                (try rw [show 0 * 4 = 0 from rfl] at hx256_1)
                (try rw [Addr.add_zero'] at hx256_1)
                (try rw [show ((0 : Int)).toNat = 0 from rfl] at hx256_2)
                (try rw [show 0 * 4 = 0 from rfl] at hx256_2)
                (try rw [Addr.add_zero'] at hx256_2)
                (try rw [show ((0 : Int)).toNat = 0 from rfl] at hx256_3)
                (try rw [show 0 * 4 = 0 from rfl] at hx256_3)
                (try rw [Addr.add_zero'] at hx256_3)
                replace p256 := eq_true p256
                replace q256 := eq_true q256
                refine start_ (n := 9) (S := fun w' => w'.cell? ⟨gb210, 0, none⟩ = some (.int .i64 a0_0) ∧ w'.cell? ⟨gb210, 1, none⟩ = some (.int .i64 a0_1) ∧ w'.cell? ⟨gb210, 2, none⟩ = some (.bool a0_2) ∧ w'.cell? ⟨gb210, 3, none⟩ = some (.int .i64 a0_3) ∧ w'.cell? ⟨gb210, 4, none⟩ = some (.int .i64 a0_4) ∧ w'.cell? ⟨gb210, 5, none⟩ = some (.slice A0_5 l0_5.length c0_5) ∧ w'.cell? ⟨gb210, 6, none⟩ = some (.slice (some ad255) l0_6.length c0_6) ∧ w'.cell? ⟨gb250, 0, none⟩ = some (.int .i64 t239) ∧ w'.cell? ⟨gb250, 1, none⟩ = some (.int .i64 t240) ∧ w'.cell? ⟨gb250, 2, none⟩ = some (.bool t241) ∧ w'.cell? ⟨gb250, 3, none⟩ = some (.int .i64 t242) ∧ w'.cell? ⟨gb250, 4, none⟩ = some (.int .i64 t243) ∧ w'.cell? ⟨gb250, 5, none⟩ = some (.slice Ao73 t244.length co73) ∧ w'.cell? ⟨gb250, 6, none⟩ = some (.slice (some ⟨go92, 0, none⟩) t247.length co74) ∧ w'.cell? ad255 = some (.int .i64 ((rd_T40 l0_6 0).f0)) ∧ w'.cell? ⟨ad255.block, ad255.off + 1, none⟩ = some (.bool ((rd_T40 l0_6 0).f1)) ∧ w'.cell? ⟨ad255.block, ad255.off + 2, none⟩ = some (.int .i64 ((rd_T40 l0_6 0).f2)) ∧ w'.cell? ⟨ad255.block, ad255.off + 3, none⟩ = some (.int .i64 ((rd_T40 l0_6 0).f3)) ∧ w'.cell? ⟨go92, 0, none⟩ = some (.int .i64 ((rd_T40 y254 0).f0)) ∧ w'.cell? ⟨go92, 1, none⟩ = some (.bool ((rd_T40 y254 0).f1)) ∧ w'.cell? ⟨go92, 2, none⟩ = some (.int .i64 ((rd_T40 y254 0).f2)) ∧ w'.cell? ⟨go92, 3, none⟩ = some (.int .i64 ((rd_T40 y254 0).f3))) (ds := []) #[false, false, false, false, false, false, false, false, false] (by kernel_rfl) rfl rfl ⟨(blk_cell BK210.out 0).trans rfl, (blk_cell BK210.out 1).trans rfl, (blk_cell BK210.out 2).trans rfl, (blk_cell BK210.out 3).trans rfl, (blk_cell BK210.out 4).trans rfl, (blk_cell BK210.out 5).trans rfl, (blk_cell BK210.out 6).trans rfl, (blk_cell BK250.out 0).trans rfl, (blk_cell BK250.out 1).trans rfl, (blk_cell BK250.out 2).trans rfl, (blk_cell BK250.out 3).trans rfl, (blk_cell BK250.out 4).trans rfl, (blk_cell BK250.out 5).trans rfl, (blk_cell BK250.out 6).trans rfl, ((HB.out.cell (World.block_lt_of_cell? w _ hw255_0)).trans hw255_0), ((HB.out.cell (World.block_lt_of_cell? w _ hw255_1)).trans hw255_1), ((HB.out.cell (World.block_lt_of_cell? w _ hw255_2)).trans hw255_2), ((HB.out.cell (World.block_lt_of_cell? w _ hw255_3)).trans hw255_3), hx256_0, hx256_1, hx256_2, hx256_3⟩ (fun hHeld => ?_); refine with_tabW busbarlaw21_BudgetFits.tab17 busbarlaw21_BudgetFits.bits17 (fun HT_ HW_ => ?_)
                generalize w97.drew = w98 at HO_224005 HO_224006 HO_236005 HO_236006 HO_251005 HO_251006 BK210 BK223 BK235 BK250 HB HQ96 hx255_0 hx255_1 hx255_2 hx255_3 hx256_0 hx256_1 hx256_2 hx256_3 hHeld ⊢
                refine pure_ (i := 0) (N := some 90) (v := ?_) (a' := ?_) #[true, false, false, false, false, false, false, false, false] rfl rfl (any_of HT_.out (by kernel_rfl)) (fun _ _ _ h => h) (Or.inl ⟨by rfl, ?_⟩) ?_ ?_
                rotate_left
                · intro w'
                  go_simp
                  with_reducible rfl
                rotate_left
                · simp only [Act.put, List.setIfInBounds_toArray, List.set_cons_zero, List.set_cons_succ, i64_w, i32_w]
                  rfl
                refine pure_ (i := 4) (N := some 94) (v := ?_) (a' := ?_) #[true, false, false, false, true, false, false, false, false] rfl rfl (any_of HT_.out (by kernel_rfl)) (fun _ _ _ h => h) (Or.inl ⟨by rfl, ?_⟩) ?_ ?_
                rotate_left
                · intro w'
                  go_simp
                  with_reducible rfl
                rotate_left
                · simp only [Act.put, List.setIfInBounds_toArray, List.set_cons_zero, List.set_cons_succ, i64_w, i32_w]
                  rfl
                refine take_ (i := 1) (N := some 91) (v := ?_) (a' := ?_) #[true, true, false, false, true, false, false, false, false] rfl rfl (take_ofW HT_.out HW_.out (by kernel_rfl)) (fun _ _ _ h => h) (Or.inl ⟨by rfl, ?_⟩) hHeld ?_ ?_
                rotate_left
                · rintro w' ⟨s0, s1, s2, s3, s4, s5, s6, s7, s8, s9, s10, s11, s12, s13, s14, s15, s16, s17, s18, s19, s20, s21⟩
                  go_simp
                  with_reducible rfl
                rotate_left
                · simp only [Act.put, List.setIfInBounds_toArray, List.set_cons_zero, List.set_cons_succ, i64_w, i32_w]
                  rfl
                refine pure_ (i := 2) (N := some 92) (v := ?_) (a' := ?_) #[true, true, true, false, true, false, false, false, false] rfl rfl (any_of HT_.out (by kernel_rfl)) (fun _ _ _ h => h) (Or.inl ⟨by rfl, ?_⟩) ?_ ?_
                rotate_left
                · intro w'
                  go_simp
                  with_reducible rfl
                rotate_left
                · simp only [Act.put, List.setIfInBounds_toArray, List.set_cons_zero, List.set_cons_succ, i64_w, i32_w]
                  rfl
                refine take_ (i := 3) (N := some 93) (v := ?_) (a' := ?_) #[true, true, true, true, true, false, false, false, false] rfl rfl (take_ofW HT_.out HW_.out (by kernel_rfl)) (fun _ _ _ h => h) (Or.inl ⟨by rfl, ?_⟩) hHeld ?_ ?_
                rotate_left
                · rintro w' ⟨s0, s1, s2, s3, s4, s5, s6, s7, s8, s9, s10, s11, s12, s13, s14, s15, s16, s17, s18, s19, s20, s21⟩
                  go_simp
                  with_reducible rfl
                rotate_left
                · simp only [Act.put, List.setIfInBounds_toArray, List.set_cons_zero, List.set_cons_succ, i64_w, i32_w]
                  rfl
                refine take_ (i := 5) (N := some 95) (v := ?_) (a' := ?_) #[true, true, true, true, true, true, false, false, false] rfl rfl (take_ofW HT_.out HW_.out (by kernel_rfl)) (fun _ _ _ h => h) (Or.inl ⟨by rfl, ?_⟩) hHeld ?_ ?_
                rotate_left
                · rintro w' ⟨s0, s1, s2, s3, s4, s5, s6, s7, s8, s9, s10, s11, s12, s13, s14, s15, s16, s17, s18, s19, s20, s21⟩
                  go_simp
                  with_reducible rfl
                rotate_left
                · simp only [Act.put, List.setIfInBounds_toArray, List.set_cons_zero, List.set_cons_succ, i64_w, i32_w]
                  rfl
                refine pure_ (i := 6) (N := some 96) (v := ?_) (a' := ?_) #[true, true, true, true, true, true, true, false, false] rfl rfl (any_of HT_.out (by kernel_rfl)) (fun _ _ _ h => h) (Or.inl ⟨by rfl, ?_⟩) ?_ ?_
                rotate_left
                · intro w'
                  go_simp
                  with_reducible rfl
                rotate_left
                · simp only [Act.put, List.setIfInBounds_toArray, List.set_cons_zero, List.set_cons_succ, i64_w, i32_w]
                  rfl
                refine take_ (i := 7) (N := some 97) (v := ?_) (a' := ?_) #[true, true, true, true, true, true, true, true, false] rfl rfl (take_ofW HT_.out HW_.out (by kernel_rfl)) (fun _ _ _ h => h) (Or.inl ⟨by rfl, ?_⟩) hHeld ?_ ?_
                rotate_left
                · rintro w' ⟨s0, s1, s2, s3, s4, s5, s6, s7, s8, s9, s10, s11, s12, s13, s14, s15, s16, s17, s18, s19, s20, s21⟩
                  go_simp
                  with_reducible rfl
                rotate_left
                · simp only [Act.put, List.setIfInBounds_toArray, List.set_cons_zero, List.set_cons_succ, i64_w, i32_w]
                  rfl
                refine pure_ (i := 8) (N := some 98) (v := ?_) (a' := ?_) #[true, true, true, true, true, true, true, true, true] rfl rfl (any_of HT_.out (by kernel_rfl)) (fun _ _ _ h => h) (Or.inl ⟨by rfl, ?_⟩) ?_ ?_
                rotate_left
                · intro w'
                  go_simp
                  with_reducible rfl
                rotate_left
                · simp only [Act.put, List.setIfInBounds_toArray, List.set_cons_zero, List.set_cons_succ, i64_w, i32_w]
                  rfl
                refine done_ (done_of HT_.out (by kernel_rfl)) ?_
                try go_wp2
                go_ret
                exact ⟨by first | rfl | (simp [errW_none, errW_some] <;> rfl) | (simp [*, errW_none, errW_some] <;> rfl), be_ HB⟩
              rw [if_neg c94] at H
              have c94b0 : (((rd_T40 l0_6 0).f0) == ((rd_T40 y254 0).f0) && (((rd_T40 l0_6 0).f1) == ((rd_T40 y254 0).f1) && (((rd_T40 l0_6 0).f2) == ((rd_T40 y254 0).f2) && (((rd_T40 l0_6 0).f3) == ((rd_T40 y254 0).f3))))) = false := by simpa using c94
              (try (have c94b1 : decide (((rd_T40 l0_6 0).f0) = ((rd_T40 y254 0).f0) && (((rd_T40 l0_6 0).f1) == ((rd_T40 y254 0).f1) && (((rd_T40 l0_6 0).f2) == ((rd_T40 y254 0).f2) && (((rd_T40 l0_6 0).f3) == ((rd_T40 y254 0).f3))))) = false := by simpa using c94))
              (try (have c94b2 : (((rd_T40 l0_6 0).f0) == ((rd_T40 y254 0).f0) && (((rd_T40 l0_6 0).f1) == ((rd_T40 y254 0).f1) && (((rd_T40 l0_6 0).f2) == ((rd_T40 y254 0).f2) && (((rd_T40 l0_6 0).f3) == ((rd_T40 y254 0).f3))))) = false := by simpa using c94))
              (try (have c94b3 : ¬ (((rd_T40 l0_6 0).f0) = ((rd_T40 y254 0).f0) && (((rd_T40 l0_6 0).f1) == ((rd_T40 y254 0).f1) && (((rd_T40 l0_6 0).f2) == ((rd_T40 y254 0).f2) && (((rd_T40 l0_6 0).f3) == ((rd_T40 y254 0).f3))))) := by simpa using c94))
              clear c94
              have H' := Aside0.mk H
              clear H
              try go_wp2
              have n0_ := Aside0.mk (Kd.R_drew HO_224005.out)
              have n1_ := Aside0.mk (Kd.R_drew HO_224006.out)
              have n2_ := Aside0.mk (Kd.R_drew HO_236005.out)
              have n3_ := Aside0.mk (Kd.R_drew HO_236006.out)
              have n4_ := Aside0.mk (Kd.R_drew HO_251005.out)
              have n5_ := Aside0.mk (Kd.R_drew HO_251006.out)
              have n6_ := Aside0.mk (blk_drew BK210.out)
              have n7_ := Aside0.mk (blk_drew BK223.out)
              have n8_ := Aside0.mk (blk_drew BK235.out)
              have n9_ := Aside0.mk (blk_drew BK250.out)
              have n10_ := Aside0.mk (below_drew1 HB.out)
              clear HO_224005
              clear HO_224006
              clear HO_236005
              clear HO_236006
              clear HO_251005
              clear HO_251006
              clear BK210
              clear BK223
              clear BK235
              clear BK250
              clear HB
              have HO_224005 := n0_
              have HO_224006 := n1_
              have HO_236005 := n2_
              have HO_236006 := n3_
              have HO_251005 := n4_
              have HO_251006 := n5_
              have BK210 := n6_
              have BK223 := n7_
              have BK235 := n8_
              have BK250 := n9_
              have HB := n10_
              clear n0_ n1_ n2_ n3_ n4_ n5_ n6_ n7_ n8_ n9_ n10_
              have p253 : 0 ≤ (0 : Int) := (by omega)
              have q253 : 0 < (t247.length : Int) := of_decide_eq_true (by first | (with_reducible assumption) | assumption)
              obtain ⟨ad253, e253, hx253_0, hx253_1, hx253_2, hx253_3⟩ := at_T40 (Kd.R_reads' HO_251006.out).2.2 0 p253 q253
              cases e253
              have qi253 : (0 < t247.length) = True := eq_true (by omega)
              (try rw [show ((0 : Int)).toNat = 0 from rfl] at hx253_0)
              (try rw [show 0 * 4 = 0 from rfl] at hx253_0)
              (try rw [Addr.add_zero'] at hx253_0)
              (try rw [show ((0 : Int)).toNat = 0 from rfl] at hx253_1)
              (try rw [show 0 * 4 = 0 from rfl] at hx253_1)
              (try rw [Addr.add_zero'] at hx253_1)
              (try rw [show ((0 : Int)).toNat = 0 from rfl] at hx253_2)
              (try rw [show 0 * 4 = 0 from rfl] at hx253_2)
              (try rw [Addr.add_zero'] at hx253_2)
              (try rw [show ((0 : Int)).toNat = 0 from rfl] at hx253_3)
              (try rw [show 0 * 4 = 0 from rfl] at hx253_3)
              (try rw [Addr.add_zero'] at hx253_3)
              replace p253 := eq_true p253
              replace q253 := eq_true q253
              have p92 : 0 ≤ (0 : Int) := (by omega)
              have q92 : (0 : Int) < ((t247.length : Int) : Int) := of_decide_eq_true (by first | (with_reducible assumption) | assumption)
              have qi92 : (0 < t247.length) = True := eq_true (by omega)
              obtain ⟨go92, co92, eo92, gb92, gl92, cl92, HG92⟩ := Kd.R_form HO_251006.out (by omega)
              (first | cases eo92 | (injection eo92 with ea_ en_ ec_; (first | subst ea_ | (injection ea_ with ea_; subst ea_)); subst ec_; clear en_))
              have GB92 := Aside0.mk gb92
              have GG92 := Aside0.mk HG92
              clear gb92 gl92 HG92
              (first | simp only [add_plain] at hx253_0 | skip)
              (first | simp only [add_plain] at hx253_1 | skip)
              (first | simp only [add_plain] at hx253_2 | skip)
              (first | simp only [add_plain] at hx253_3 | skip)
              obtain ⟨ce92, hcl92, hM92, hcc92, hfr92⟩ := Kd.R_elem HO_251006.out z40 (0 : Int) p92 q92
              obtain rfl := k40_openM hM92
              have hx92_0 : World.cell? _ ⟨go92, (0 : Int).toNat * 4, none⟩ = some (.int .i64 ((rd_T40 t247 0).f0)) := hcc92 0 _ rfl
              have hx92_1 : World.cell? _ ⟨go92, (0 : Int).toNat * 4 + 1, none⟩ = some (.bool ((rd_T40 t247 0).f1)) := hcc92 1 _ rfl
              have hx92_2 : World.cell? _ ⟨go92, (0 : Int).toNat * 4 + 2, none⟩ = some (.int .i64 ((rd_T40 t247 0).f2)) := hcc92 2 _ rfl
              have hx92_3 : World.cell? _ ⟨go92, (0 : Int).toNat * 4 + 3, none⟩ = some (.int .i64 ((rd_T40 t247 0).f3)) := hcc92 3 _ rfl
              have hf92_0 : World.frozen? _ ⟨go92, (0 : Int).toNat * 4, none⟩ = false := hfr92 0
              have hf92_1 : World.frozen? _ ⟨go92, (0 : Int).toNat * 4 + 1, none⟩ = false := hfr92 1
              have hf92_2 : World.frozen? _ ⟨go92, (0 : Int).toNat * 4 + 2, none⟩ = false := hfr92 2
              have hf92_3 : World.frozen? _ ⟨go92, (0 : Int).toNat * 4 + 3, none⟩ = false := hfr92 3
              clear hcl92 hcc92 hfr92 hM92
              (try rw [show ((0 : Int)).toNat = 0 from rfl] at hx92_0)
              (try simp only [Nat.reduceMul, Nat.zero_mul, Nat.zero_add, Nat.reduceAdd] at hx92_0)
              (try rw [show ((0 : Int)).toNat = 0 from rfl] at hf92_0)
              (try simp only [Nat.reduceMul, Nat.zero_mul, Nat.zero_add, Nat.reduceAdd] at hf92_0)
              (try rw [show ((0 : Int)).toNat = 0 from rfl] at hx92_1)
              (try simp only [Nat.reduceMul, Nat.zero_mul, Nat.zero_add, Nat.reduceAdd] at hx92_1)
              (try rw [show ((0 : Int)).toNat = 0 from rfl] at hf92_1)
              (try simp only [Nat.reduceMul, Nat.zero_mul, Nat.zero_add, Nat.reduceAdd] at hf92_1)
              (try rw [show ((0 : Int)).toNat = 0 from rfl] at hx92_2)
              (try simp only [Nat.reduceMul, Nat.zero_mul, Nat.zero_add, Nat.reduceAdd] at hx92_2)
              (try rw [show ((0 : Int)).toNat = 0 from rfl] at hf92_2)
              (try simp only [Nat.reduceMul, Nat.zero_mul, Nat.zero_add, Nat.reduceAdd] at hf92_2)
              (try rw [show ((0 : Int)).toNat = 0 from rfl] at hx92_3)
              (try simp only [Nat.reduceMul, Nat.zero_mul, Nat.zero_add, Nat.reduceAdd] at hx92_3)
              (try rw [show ((0 : Int)).toNat = 0 from rfl] at hf92_3)
              (try simp only [Nat.reduceMul, Nat.zero_mul, Nat.zero_add, Nat.reduceAdd] at hf92_3)
              replace p92 := eq_true p92
              replace q92 := eq_true q92
              obtain ⟨ce100, hcl100, hM100, hcc100, hfr100⟩ := Kd.R_elem HO_251006.out z40 (0 : Int) (by omega) (by have h_ : (0 : Int) < ((t247.length : Int) : Int) := of_decide_eq_true (by first | (with_reducible assumption) | assumption); first | exact h_ | (have e_ := (Kd.R_reads' HO_251006.out).1; omega) | simpa using h_)
              obtain rfl := k40_openM hM100
              have HP100 := (Kd.R_seg HO_251006.out (0 : Int) (by omega) (by have h_ : (0 : Int) < ((t247.length : Int) : Int) := of_decide_eq_true (by first | (with_reducible assumption) | assumption); first | exact h_ | (have e_ := (Kd.R_reads' HO_251006.out).1; omega) | simpa using h_) (seg := [.int .i64 (Go.bits .xor .i64 ((rd_T40 t247 0).f0) 1)]) (j := 0) hcl100 hcc100 (show 1 ≤ 4 from by decide) (x' := (⟨Go.bits .xor .i64 ((rd_T40 t247 0).f0) 1, (rd_T40 t247 0).f1, (rd_T40 t247 0).f2, (rd_T40 t247 0).f3⟩ : S40)) (k40_mkM _ _ _ (⟨Go.bits .xor .i64 ((rd_T40 t247 0).f0) 1, (rd_T40 t247 0).f1, (rd_T40 t247 0).f2, (rd_T40 t247 0).f3⟩ : S40) ) (fun _ hk => hk)).1
              rw [← Ny254.out] at HP100
              have HQ100 := Aside0.mk HP100
              clear hcl100 hcc100 hfr100 hM100 HP100
              refine start_ (n := 11) (S := fun w' => w'.cell? ⟨gb250, 0, none⟩ = some (.int .i64 t239) ∧ w'.cell? ⟨gb250, 1, none⟩ = some (.int .i64 t240) ∧ w'.cell? ⟨gb250, 2, none⟩ = some (.bool t241) ∧ w'.cell? ⟨gb250, 3, none⟩ = some (.int .i64 t242) ∧ w'.cell? ⟨gb250, 4, none⟩ = some (.int .i64 t243) ∧ w'.cell? ⟨gb250, 5, none⟩ = some (.slice Ao73 t244.length co73) ∧ w'.cell? ⟨gb250, 6, none⟩ = some (.slice (some ⟨go92, 0, none⟩) t247.length co74) ∧ w'.cell? ⟨go92, 0, none⟩ = some (.int .i64 ((rd_T40 t247 0).f0)) ∧ w'.cell? ⟨go92, 1, none⟩ = some (.bool ((rd_T40 t247 0).f1)) ∧ w'.cell? ⟨go92, 2, none⟩ = some (.int .i64 ((rd_T40 t247 0).f2)) ∧ w'.cell? ⟨go92, 3, none⟩ = some (.int .i64 ((rd_T40 t247 0).f3))) (ds := [10]) #[false, false, false, false, false, false, false, false, false, false, false] (by kernel_rfl) rfl rfl ⟨(blk_cell BK250.out 0).trans rfl, (blk_cell BK250.out 1).trans rfl, (blk_cell BK250.out 2).trans rfl, (blk_cell BK250.out 3).trans rfl, (blk_cell BK250.out 4).trans rfl, (blk_cell BK250.out 5).trans rfl, (blk_cell BK250.out 6).trans rfl, hx253_0, hx253_1, hx253_2, hx253_3⟩ (fun hHeld => ?_); refine with_tabW busbarlaw21_BudgetFits.tab16 busbarlaw21_BudgetFits.bits16 (fun HT_ HW_ => ?_)
              generalize wc.drew = w99 at HO_224005 HO_224006 HO_236005 HO_236006 HO_251005 HO_251006 BK210 BK223 BK235 BK250 HB GG92 HQ100 hf92_0 hf92_1 hf92_2 hf92_3 hx253_0 hx253_1 hx253_2 hx253_3 hx92_0 hx92_1 hx92_2 hx92_3 hHeld ⊢
              refine pure_ (i := 0) (N := some 80) (v := ?_) (a' := ?_) #[true, false, false, false, false, false, false, false, false, false, false] rfl rfl (any_of HT_.out (by kernel_rfl)) (fun _ _ _ h => h) (Or.inl ⟨by rfl, ?_⟩) ?_ ?_
              rotate_left
              · intro w'
                go_simp
                with_reducible rfl
              rotate_left
              · simp only [Act.put, List.setIfInBounds_toArray, List.set_cons_zero, List.set_cons_succ, i64_w, i32_w]
                rfl
              refine pure_ (i := 2) (N := some 82) (v := ?_) (a' := ?_) #[true, false, true, false, false, false, false, false, false, false, false] rfl rfl (any_of HT_.out (by kernel_rfl)) (fun _ _ _ h => h) (Or.inl ⟨by rfl, ?_⟩) ?_ ?_
              rotate_left
              · intro w'
                go_simp
                with_reducible rfl
              rotate_left
              · simp only [Act.put, List.setIfInBounds_toArray, List.set_cons_zero, List.set_cons_succ, i64_w, i32_w]
                rfl
              refine take_ (i := 1) (N := some 81) (v := ?_) (a' := ?_) #[true, true, true, false, false, false, false, false, false, false, false] rfl rfl (take_ofW HT_.out HW_.out (by kernel_rfl)) (fun _ _ _ h => h) (Or.inl ⟨by rfl, ?_⟩) hHeld ?_ ?_
              rotate_left
              · rintro w' ⟨s0, s1, s2, s3, s4, s5, s6, s7, s8, s9, s10⟩
                go_simp
                with_reducible rfl
              rotate_left
              · simp only [Act.put, List.setIfInBounds_toArray, List.set_cons_zero, List.set_cons_succ, i64_w, i32_w]
                rfl
              refine take_ (i := 3) (N := some 83) (v := ?_) (a' := ?_) #[true, true, true, true, false, false, false, false, false, false, false] rfl rfl (take_ofW HT_.out HW_.out (by kernel_rfl)) (fun _ _ _ h => h) (Or.inl ⟨by rfl, ?_⟩) hHeld ?_ ?_
              rotate_left
              · rintro w' ⟨s0, s1, s2, s3, s4, s5, s6, s7, s8, s9, s10⟩
                go_simp
                with_reducible rfl
              rotate_left
              · simp only [Act.put, List.setIfInBounds_toArray, List.set_cons_zero, List.set_cons_succ, i64_w, i32_w]
                rfl
              refine pure_ (i := 4) (N := some 84) (v := ?_) (a' := ?_) #[true, true, true, true, true, false, false, false, false, false, false] rfl rfl (any_of HT_.out (by kernel_rfl)) (fun _ _ _ h => h) (Or.inl ⟨by rfl, ?_⟩) ?_ ?_
              rotate_left
              · intro w'
                go_simp
                with_reducible rfl
              rotate_left
              · simp only [Act.put, List.setIfInBounds_toArray, List.set_cons_zero, List.set_cons_succ, i64_w, i32_w]
                rfl
              refine pure_ (i := 5) (N := some 85) (v := ?_) (a' := ?_) #[true, true, true, true, true, true, false, false, false, false, false] rfl rfl (any_of HT_.out (by kernel_rfl)) (fun _ _ _ h => h) (Or.inl ⟨by rfl, ?_⟩) ?_ ?_
              rotate_left
              · intro w'
                go_simp
                with_reducible rfl
              rotate_left
              · simp only [Act.put, List.setIfInBounds_toArray, List.set_cons_zero, List.set_cons_succ, i64_w, i32_w]
                rfl
              refine take_ (i := 6) (N := some 86) (v := ?_) (a' := ?_) #[true, true, true, true, true, true, true, false, false, false, false] rfl rfl (take_ofW HT_.out HW_.out (by kernel_rfl)) (fun _ _ _ h => h) (Or.inl ⟨by rfl, ?_⟩) hHeld ?_ ?_
              rotate_left
              · rintro w' ⟨s0, s1, s2, s3, s4, s5, s6, s7, s8, s9, s10⟩
                go_simp
                with_reducible rfl
              rotate_left
              · simp only [Act.put, List.setIfInBounds_toArray, List.set_cons_zero, List.set_cons_succ, i64_w, i32_w]
                rfl
              refine pure_ (i := 7) (N := some 87) (v := ?_) (a' := ?_) #[true, true, true, true, true, true, true, true, false, false, false] rfl rfl (any_of HT_.out (by kernel_rfl)) (fun _ _ _ h => h) (Or.inl ⟨by rfl, ?_⟩) ?_ ?_
              rotate_left
              · intro w'
                go_simp
                with_reducible rfl
              rotate_left
              · simp only [Act.put, List.setIfInBounds_toArray, List.set_cons_zero, List.set_cons_succ, i64_w, i32_w]
                rfl
              refine pure_ (i := 8) (N := some 88) (v := ?_) (a' := ?_) #[true, true, true, true, true, true, true, true, true, false, false] rfl rfl (any_of HT_.out (by kernel_rfl)) (fun _ _ _ h => h) (Or.inl ⟨by rfl, ?_⟩) ?_ ?_
              rotate_left
              · intro w'
                go_simp
                with_reducible rfl
              rotate_left
              · simp only [Act.put, List.setIfInBounds_toArray, List.set_cons_zero, List.set_cons_succ, i64_w, i32_w]
                rfl
              refine pure_ (i := 9) (N := some 89) (v := ?_) (a' := ?_) #[true, true, true, true, true, true, true, true, true, true, false] rfl rfl (any_of HT_.out (by kernel_rfl)) (fun _ _ _ h => h) (Or.inl ⟨by rfl, ?_⟩) ?_ ?_
              rotate_left
              · intro w'
                go_simp
                with_reducible rfl
              rotate_left
              · simp only [Act.put, List.setIfInBounds_toArray, List.set_cons_zero, List.set_cons_succ, i64_w, i32_w]
                rfl
              refine last_ (i := 10) (N := none) #[true, true, true, true, true, true, true, true, true, true, true] rfl rfl (one_of HT_.out (by kernel_rfl)) (by decide) (fun K hK => ?_)
              refine skip_ (w1 := ?_) (by rfl) rfl ?_ ?_
              rotate_left
              · go_simp
                rfl
              refine hK.out _ _ ?_
              clear hK K
              refine done_ (done_of HT_.out (by kernel_rfl)) ?_
              try go_wp2
              have n0_ : Aside0 (Kd.R (Kd.int .u8) 5 (w99.setCell ⟨go92, 0, none⟩ (.int .i64 (Go.bits .xor .i64 ((rd_T40 t247 0).f0) 1))) w.heap.size (fun k_ => some k_ ≠ (.slice Ao23 t229.length co23 : Value).ownBlock ∧ some k_ ≠ (.slice Ao73 t244.length co73 : Value).ownBlock) (.slice Ao16 t217.length co16) t217) := ⟨by (with_reducible repeat (first | apply Kd.R_alloc | apply Kd.R_drewN | apply Kd.R_drew)); exact Kd.R_mono (Kd.R_far (p := ⟨go92, 0, none⟩) (Kd.R_types HO_224005.out GG92.out (by decide)) (fun _ hk => hk.2) (.int .i64 (Go.bits .xor .i64 ((rd_T40 t247 0).f0) 1))) (fun _ hk => ⟨hk.1.1, hk.1.2⟩)⟩
              have n1_ : Aside0 (Kd.R k40 40 (w99.setCell ⟨go92, 0, none⟩ (.int .i64 (Go.bits .xor .i64 ((rd_T40 t247 0).f0) 1))) w.heap.size (fun k_ => some k_ ≠ (.slice Ao24 t232.length co24 : Value).ownBlock ∧ some k_ ≠ (.slice (some ⟨go92, 0, none⟩) t247.length co74 : Value).ownBlock) (.slice Ao17 t220.length co17) t220) := ⟨by (with_reducible repeat (first | apply Kd.R_alloc | apply Kd.R_drewN | apply Kd.R_drew)); exact Kd.R_mono (Kd.R_far (p := ⟨go92, 0, none⟩) (Kd.R_mono HO_224006.out (fun k_ hk => (⟨hk, fun e_ => hk.2 (by rw [e_]; rfl)⟩ : _ ∧ k_ ≠ go92))) (fun _ hk => hk.2) (.int .i64 (Go.bits .xor .i64 ((rd_T40 t247 0).f0) 1))) (fun _ hk => ⟨hk.1.1, hk.1.2⟩)⟩
              have n2_ : Aside0 (Kd.R (Kd.int .u8) 5 (w99.setCell ⟨go92, 0, none⟩ (.int .i64 (Go.bits .xor .i64 ((rd_T40 t247 0).f0) 1))) w.heap.size (fun k_ => some k_ ≠ (.slice Ao16 t217.length co16 : Value).ownBlock ∧ some k_ ≠ (.slice Ao73 t244.length co73 : Value).ownBlock) (.slice Ao23 t229.length co23) t229) := ⟨by (with_reducible repeat (first | apply Kd.R_alloc | apply Kd.R_drewN | apply Kd.R_drew)); exact Kd.R_mono (Kd.R_far (p := ⟨go92, 0, none⟩) (Kd.R_types HO_236005.out GG92.out (by decide)) (fun _ hk => hk.2) (.int .i64 (Go.bits .xor .i64 ((rd_T40 t247 0).f0) 1))) (fun _ hk => ⟨hk.1.1, hk.1.2⟩)⟩
              have n3_ : Aside0 (Kd.R k40 40 (w99.setCell ⟨go92, 0, none⟩ (.int .i64 (Go.bits .xor .i64 ((rd_T40 t247 0).f0) 1))) w.heap.size (fun k_ => some k_ ≠ (.slice Ao17 t220.length co17 : Value).ownBlock ∧ some k_ ≠ (.slice (some ⟨go92, 0, none⟩) t247.length co74 : Value).ownBlock) (.slice Ao24 t232.length co24) t232) := ⟨by (with_reducible repeat (first | apply Kd.R_alloc | apply Kd.R_drewN | apply Kd.R_drew)); exact Kd.R_mono (Kd.R_far (p := ⟨go92, 0, none⟩) (Kd.R_mono HO_236006.out (fun k_ hk => (⟨hk, fun e_ => hk.2 (by rw [e_]; rfl)⟩ : _ ∧ k_ ≠ go92))) (fun _ hk => hk.2) (.int .i64 (Go.bits .xor .i64 ((rd_T40 t247 0).f0) 1))) (fun _ hk => ⟨hk.1.1, hk.1.2⟩)⟩
              have n4_ : Aside0 (Kd.R (Kd.int .u8) 5 (w99.setCell ⟨go92, 0, none⟩ (.int .i64 (Go.bits .xor .i64 ((rd_T40 t247 0).f0) 1))) w.heap.size (fun k_ => some k_ ≠ (.slice Ao16 t217.length co16 : Value).ownBlock ∧ some k_ ≠ (.slice Ao23 t229.length co23 : Value).ownBlock) (.slice Ao73 t244.length co73) t244) := ⟨by (with_reducible repeat (first | apply Kd.R_alloc | apply Kd.R_drewN | apply Kd.R_drew)); exact Kd.R_mono (Kd.R_far (p := ⟨go92, 0, none⟩) (Kd.R_types HO_251005.out GG92.out (by decide)) (fun _ hk => hk.2) (.int .i64 (Go.bits .xor .i64 ((rd_T40 t247 0).f0) 1))) (fun _ hk => ⟨hk.1.1, hk.1.2⟩)⟩
              have n5_ : Aside0 (Kd.R k40 40 (w99.setCell ⟨go92, 0, none⟩ (.int .i64 (Go.bits .xor .i64 ((rd_T40 t247 0).f0) 1))) w.heap.size (fun k_ => some k_ ≠ (.slice Ao17 t220.length co17 : Value).ownBlock ∧ some k_ ≠ (.slice Ao24 t232.length co24 : Value).ownBlock) (.slice (some ⟨go92, 0, none⟩) t247.length co74) y254) := ⟨rk_ HQ100⟩
              have n6_ : Aside0 ((w99.setCell ⟨go92, 0, none⟩ (.int .i64 (Go.bits .xor .i64 ((rd_T40 t247 0).f0) 1))).heap[gb210]? = some (.cells #[.int .i64 a0_0, .int .i64 a0_1, .bool a0_2, .int .i64 a0_3, .int .i64 a0_4, .slice A0_5 l0_5.length c0_5, .slice A0_6 l0_6.length c0_6] 27 (0, 0))) := ⟨by (with_reducible repeat (first | refine blk_drewN ?_ _ | refine blk_drew ?_ | refine blk_alloc ?_ _)); refine blk_far ?_ (by have h_ := Kd.R_ne HO_251006.out BK210.out (by decide); intro e_; exact h_ (by rw [e_]; rfl)) _; (with_reducible repeat (first | refine blk_drewN ?_ _ | refine blk_drew ?_ | refine blk_alloc ?_ _)); exact BK210.out⟩
              have n7_ : Aside0 ((w99.setCell ⟨go92, 0, none⟩ (.int .i64 (Go.bits .xor .i64 ((rd_T40 t247 0).f0) 1))).heap[gb223]? = some (.cells #[.int .i64 t212, .int .i64 t213, .bool t214, .int .i64 t215, .int .i64 t216, .slice Ao16 t217.length co16, .slice Ao17 t220.length co17] 27 (0, 0))) := ⟨by (with_reducible repeat (first | refine blk_drewN ?_ _ | refine blk_drew ?_ | refine blk_alloc ?_ _)); refine blk_far ?_ (by have h_ := Kd.R_ne HO_251006.out BK223.out (by decide); intro e_; exact h_ (by rw [e_]; rfl)) _; (with_reducible repeat (first | refine blk_drewN ?_ _ | refine blk_drew ?_ | refine blk_alloc ?_ _)); exact BK223.out⟩
              have n8_ : Aside0 ((w99.setCell ⟨go92, 0, none⟩ (.int .i64 (Go.bits .xor .i64 ((rd_T40 t247 0).f0) 1))).heap[gb235]? = some (.cells #[.int .i64 t224, .int .i64 t225, .bool t226, .int .i64 t227, .int .i64 t228, .slice Ao23 t229.length co23, .slice Ao24 t232.length co24] 27 (0, 0))) := ⟨by (with_reducible repeat (first | refine blk_drewN ?_ _ | refine blk_drew ?_ | refine blk_alloc ?_ _)); refine blk_far ?_ (by have h_ := Kd.R_ne HO_251006.out BK235.out (by decide); intro e_; exact h_ (by rw [e_]; rfl)) _; (with_reducible repeat (first | refine blk_drewN ?_ _ | refine blk_drew ?_ | refine blk_alloc ?_ _)); exact BK235.out⟩
              have n9_ : Aside0 ((w99.setCell ⟨go92, 0, none⟩ (.int .i64 (Go.bits .xor .i64 ((rd_T40 t247 0).f0) 1))).heap[gb250]? = some (.cells #[.int .i64 t239, .int .i64 t240, .bool t241, .int .i64 t242, .int .i64 t243, .slice Ao73 t244.length co73, .slice (some ⟨go92, 0, none⟩) t247.length co74] 27 (0, 0))) := ⟨by (with_reducible repeat (first | refine blk_drewN ?_ _ | refine blk_drew ?_ | refine blk_alloc ?_ _)); refine blk_far ?_ (by have h_ := Kd.R_ne HO_251006.out BK250.out (by decide); intro e_; exact h_ (by rw [e_]; rfl)) _; (with_reducible repeat (first | refine blk_drewN ?_ _ | refine blk_drew ?_ | refine blk_alloc ?_ _)); exact BK250.out⟩
              have n10_ : Aside0 (Below w.heap.size w (w99.setCell ⟨go92, 0, none⟩ (.int .i64 (Go.bits .xor .i64 ((rd_T40 t247 0).f0) 1)))) := ⟨by repeat (first | (with_reducible first | exact HB.out | apply below_alloc | apply pw_below_drewN | apply below_drew1 | refine below_set ?_ GB92.out | refine below_set ?_ GE210.out | refine below_set ?_ GE223.out | refine below_set ?_ GE235.out | refine below_set ?_ GE250.out) | exact HB.out)⟩
              (try clear HO_224005)
              (try clear HO_224006)
              (try clear HO_236005)
              (try clear HO_236006)
              (try clear HO_251005)
              (try clear HO_251006)
              (try clear BK210)
              (try clear BK223)
              (try clear BK235)
              (try clear BK250)
              (try clear HB)
              generalize (w99.setCell ⟨go92, 0, none⟩ (.int .i64 (Go.bits .xor .i64 ((rd_T40 t247 0).f0) 1))) = w101 at n0_ n1_ n2_ n3_ n4_ n5_ n6_ n7_ n8_ n9_ n10_ ⊢
              have HO_224005 := n0_
              have HO_224006 := n1_
              have HO_236005 := n2_
              have HO_236006 := n3_
              have HO_251005 := n4_
              have HO_251006 := n5_
              have BK210 := n6_
              have BK223 := n7_
              have BK235 := n8_
              have BK250 := n9_
              have HB := n10_
              clear n0_ n1_ n2_ n3_ n4_ n5_ n6_ n7_ n8_ n9_ n10_
              have n0_ := Aside0.mk (Kd.R_drew HO_224005.out)
              have n1_ := Aside0.mk (Kd.R_drew HO_224006.out)
              have n2_ := Aside0.mk (Kd.R_drew HO_236005.out)
              have n3_ := Aside0.mk (Kd.R_drew HO_236006.out)
              have n4_ := Aside0.mk (Kd.R_drew HO_251005.out)
              have n5_ := Aside0.mk (Kd.R_drew HO_251006.out)
              have n6_ := Aside0.mk (blk_drew BK210.out)
              have n7_ := Aside0.mk (blk_drew BK223.out)
              have n8_ := Aside0.mk (blk_drew BK235.out)
              have n9_ := Aside0.mk (blk_drew BK250.out)
              have n10_ := Aside0.mk (below_drew1 HB.out)
              clear HO_224005
              clear HO_224006
              clear HO_236005
              clear HO_236006
              clear HO_251005
              clear HO_251006
              clear BK210
              clear BK223
              clear BK235
              clear BK250
              clear HB
              have HO_224005 := n0_
              have HO_224006 := n1_
              have HO_236005 := n2_
              have HO_236006 := n3_
              have HO_251005 := n4_
              have HO_251006 := n5_
              have BK210 := n6_
              have BK223 := n7_
              have BK235 := n8_
              have BK250 := n9_
              have HB := n10_
              clear n0_ n1_ n2_ n3_ n4_ n5_ n6_ n7_ n8_ n9_ n10_
              have p255 : 0 ≤ (0 : Int) := (by omega)
              have q255 : 0 < (l0_6.length : Int) := of_decide_eq_true (by first | (with_reducible assumption) | assumption)
              obtain ⟨ad255, e255, hx255_0, hx255_1, hx255_2, hx255_3⟩ := at_T40 HR0_6.out 0 p255 q255
              have hw255_3 := hx255_3
              (try rw [show ((0 : Int)).toNat = 0 from rfl] at hw255_3)
              (try rw [show 0 * 4 = 0 from rfl] at hw255_3)
              (try rw [Addr.add_zero'] at hw255_3)
              have hw255_2 := hx255_2
              (try rw [show ((0 : Int)).toNat = 0 from rfl] at hw255_2)
              (try rw [show 0 * 4 = 0 from rfl] at hw255_2)
              (try rw [Addr.add_zero'] at hw255_2)
              have hw255_1 := hx255_1
              (try rw [show ((0 : Int)).toNat = 0 from rfl] at hw255_1)
              (try rw [show 0 * 4 = 0 from rfl] at hw255_1)
              (try rw [Addr.add_zero'] at hw255_1)
              have hw255_0 := hx255_0
              (try rw [show ((0 : Int)).toNat = 0 from rfl] at hw255_0)
              (try rw [show 0 * 4 = 0 from rfl] at hw255_0)
              (try rw [Addr.add_zero'] at hw255_0)
              cases e255
              have qi255 : (0 < l0_6.length) = True := eq_true (by omega)
              (try rw [show ((0 : Int)).toNat = 0 from rfl] at hx255_0)
              (try rw [show 0 * 4 = 0 from rfl] at hx255_0)
              (try rw [Addr.add_zero'] at hx255_0)
              (try rw [show ((0 : Int)).toNat = 0 from rfl] at hx255_1)
              (try rw [show 0 * 4 = 0 from rfl] at hx255_1)
              (try rw [Addr.add_zero'] at hx255_1)
              (try rw [show ((0 : Int)).toNat = 0 from rfl] at hx255_2)
              (try rw [show 0 * 4 = 0 from rfl] at hx255_2)
              (try rw [Addr.add_zero'] at hx255_2)
              (try rw [show ((0 : Int)).toNat = 0 from rfl] at hx255_3)
              (try rw [show 0 * 4 = 0 from rfl] at hx255_3)
              (try rw [Addr.add_zero'] at hx255_3)
              replace hx255_0 := (HB.out.cell (World.block_lt_of_cell? w _ hx255_0)).trans hx255_0
              replace hx255_1 := (HB.out.cell (World.block_lt_of_cell? w _ hx255_1)).trans hx255_1
              replace hx255_2 := (HB.out.cell (World.block_lt_of_cell? w _ hx255_2)).trans hx255_2
              replace hx255_3 := (HB.out.cell (World.block_lt_of_cell? w _ hx255_3)).trans hx255_3
              replace p255 := eq_true p255
              replace q255 := eq_true q255
              have p256 : 0 ≤ (0 : Int) := (by omega)
              have q256 : 0 < (y254.length : Int) := (by have h_ : (0 : Int) < ((t247.length : Int) : Int) := of_decide_eq_true (by first | (with_reducible assumption) | assumption); first | (have e_ := (Kd.R_reads' HO_251006.out).1; omega) | simpa only [Ny254.out, List.length_set] using h_)
              have ql256 : ((0 : Int) < ((t247.length : Int) : Int)) = True := eq_true (of_decide_eq_true (by first | (with_reducible assumption) | assumption))
              (try have qn256 : (0 < t247.length) = True := eq_true (by have h_ : (0 : Int) < ((t247.length : Int) : Int) := of_decide_eq_true (by first | (with_reducible assumption) | assumption); omega))
              obtain ⟨ad256, e256, hx256_0, hx256_1, hx256_2, hx256_3⟩ := at_T40 (Kd.R_reads' HO_251006.out).2.2 0 p256 q256
              obtain rfl : (⟨go92, 0, none⟩ : Addr) = ad256 := (by injection e256)
              (first | simp only [add_plain] at hx256_0 | simp only [add_at] at hx256_0 | simp only [Addr.add, Nat.zero_add] at hx256_0 | skip)
              (first | simp only [add_plain] at hx256_1 | simp only [add_at] at hx256_1 | simp only [Addr.add, Nat.zero_add] at hx256_1 | skip)
              (first | simp only [add_plain] at hx256_2 | simp only [add_at] at hx256_2 | simp only [Addr.add, Nat.zero_add] at hx256_2 | skip)
              (first | simp only [add_plain] at hx256_3 | simp only [add_at] at hx256_3 | simp only [Addr.add, Nat.zero_add] at hx256_3 | skip)
              have qi256 : (0 < y254.length) = True := eq_true (by omega)
              (try rw [show ((0 : Int)).toNat = 0 from rfl] at hx256_0)
              (try rw [show 0 * 4 = 0 from rfl] at hx256_0)
              (try rw [Addr.add_zero'] at hx256_0)
              (try rw [show ((0 : Int)).toNat = 0 from rfl] at hx256_1)
              (try rw [show 0 * 4 = 0 from rfl] at hx256_1)
              (try rw [Addr.add_zero'] at hx256_1)
              (try rw [show ((0 : Int)).toNat = 0 from rfl] at hx256_2)
              (try rw [show 0 * 4 = 0 from rfl] at hx256_2)
              (try rw [Addr.add_zero'] at hx256_2)
              (try rw [show ((0 : Int)).toNat = 0 from rfl] at hx256_3)
              (try rw [show 0 * 4 = 0 from rfl] at hx256_3)
              (try rw [Addr.add_zero'] at hx256_3)
              replace p256 := eq_true p256
              replace q256 := eq_true q256
              refine start_ (n := 9) (S := fun w' => w'.cell? ⟨gb210, 0, none⟩ = some (.int .i64 a0_0) ∧ w'.cell? ⟨gb210, 1, none⟩ = some (.int .i64 a0_1) ∧ w'.cell? ⟨gb210, 2, none⟩ = some (.bool a0_2) ∧ w'.cell? ⟨gb210, 3, none⟩ = some (.int .i64 a0_3) ∧ w'.cell? ⟨gb210, 4, none⟩ = some (.int .i64 a0_4) ∧ w'.cell? ⟨gb210, 5, none⟩ = some (.slice A0_5 l0_5.length c0_5) ∧ w'.cell? ⟨gb210, 6, none⟩ = some (.slice (some ad255) l0_6.length c0_6) ∧ w'.cell? ⟨gb250, 0, none⟩ = some (.int .i64 t239) ∧ w'.cell? ⟨gb250, 1, none⟩ = some (.int .i64 t240) ∧ w'.cell? ⟨gb250, 2, none⟩ = some (.bool t241) ∧ w'.cell? ⟨gb250, 3, none⟩ = some (.int .i64 t242) ∧ w'.cell? ⟨gb250, 4, none⟩ = some (.int .i64 t243) ∧ w'.cell? ⟨gb250, 5, none⟩ = some (.slice Ao73 t244.length co73) ∧ w'.cell? ⟨gb250, 6, none⟩ = some (.slice (some ⟨go92, 0, none⟩) t247.length co74) ∧ w'.cell? ad255 = some (.int .i64 ((rd_T40 l0_6 0).f0)) ∧ w'.cell? ⟨ad255.block, ad255.off + 1, none⟩ = some (.bool ((rd_T40 l0_6 0).f1)) ∧ w'.cell? ⟨ad255.block, ad255.off + 2, none⟩ = some (.int .i64 ((rd_T40 l0_6 0).f2)) ∧ w'.cell? ⟨ad255.block, ad255.off + 3, none⟩ = some (.int .i64 ((rd_T40 l0_6 0).f3)) ∧ w'.cell? ⟨go92, 0, none⟩ = some (.int .i64 ((rd_T40 y254 0).f0)) ∧ w'.cell? ⟨go92, 1, none⟩ = some (.bool ((rd_T40 y254 0).f1)) ∧ w'.cell? ⟨go92, 2, none⟩ = some (.int .i64 ((rd_T40 y254 0).f2)) ∧ w'.cell? ⟨go92, 3, none⟩ = some (.int .i64 ((rd_T40 y254 0).f3))) (ds := []) #[false, false, false, false, false, false, false, false, false] (by kernel_rfl) rfl rfl ⟨(blk_cell BK210.out 0).trans rfl, (blk_cell BK210.out 1).trans rfl, (blk_cell BK210.out 2).trans rfl, (blk_cell BK210.out 3).trans rfl, (blk_cell BK210.out 4).trans rfl, (blk_cell BK210.out 5).trans rfl, (blk_cell BK210.out 6).trans rfl, (blk_cell BK250.out 0).trans rfl, (blk_cell BK250.out 1).trans rfl, (blk_cell BK250.out 2).trans rfl, (blk_cell BK250.out 3).trans rfl, (blk_cell BK250.out 4).trans rfl, (blk_cell BK250.out 5).trans rfl, (blk_cell BK250.out 6).trans rfl, ((HB.out.cell (World.block_lt_of_cell? w _ hw255_0)).trans hw255_0), ((HB.out.cell (World.block_lt_of_cell? w _ hw255_1)).trans hw255_1), ((HB.out.cell (World.block_lt_of_cell? w _ hw255_2)).trans hw255_2), ((HB.out.cell (World.block_lt_of_cell? w _ hw255_3)).trans hw255_3), hx256_0, hx256_1, hx256_2, hx256_3⟩ (fun hHeld => ?_); refine with_tabW busbarlaw21_BudgetFits.tab17 busbarlaw21_BudgetFits.bits17 (fun HT_ HW_ => ?_)
              generalize w101.drew = w102 at HO_224005 HO_224006 HO_236005 HO_236006 HO_251005 HO_251006 BK210 BK223 BK235 BK250 HB HQ100 hx255_0 hx255_1 hx255_2 hx255_3 hx256_0 hx256_1 hx256_2 hx256_3 hHeld ⊢
              refine pure_ (i := 0) (N := some 90) (v := ?_) (a' := ?_) #[true, false, false, false, false, false, false, false, false] rfl rfl (any_of HT_.out (by kernel_rfl)) (fun _ _ _ h => h) (Or.inl ⟨by rfl, ?_⟩) ?_ ?_
              rotate_left
              · intro w'
                go_simp
                with_reducible rfl
              rotate_left
              · simp only [Act.put, List.setIfInBounds_toArray, List.set_cons_zero, List.set_cons_succ, i64_w, i32_w]
                rfl
              refine pure_ (i := 4) (N := some 94) (v := ?_) (a' := ?_) #[true, false, false, false, true, false, false, false, false] rfl rfl (any_of HT_.out (by kernel_rfl)) (fun _ _ _ h => h) (Or.inl ⟨by rfl, ?_⟩) ?_ ?_
              rotate_left
              · intro w'
                go_simp
                with_reducible rfl
              rotate_left
              · simp only [Act.put, List.setIfInBounds_toArray, List.set_cons_zero, List.set_cons_succ, i64_w, i32_w]
                rfl
              refine take_ (i := 1) (N := some 91) (v := ?_) (a' := ?_) #[true, true, false, false, true, false, false, false, false] rfl rfl (take_ofW HT_.out HW_.out (by kernel_rfl)) (fun _ _ _ h => h) (Or.inl ⟨by rfl, ?_⟩) hHeld ?_ ?_
              rotate_left
              · rintro w' ⟨s0, s1, s2, s3, s4, s5, s6, s7, s8, s9, s10, s11, s12, s13, s14, s15, s16, s17, s18, s19, s20, s21⟩
                go_simp
                with_reducible rfl
              rotate_left
              · simp only [Act.put, List.setIfInBounds_toArray, List.set_cons_zero, List.set_cons_succ, i64_w, i32_w]
                rfl
              refine pure_ (i := 2) (N := some 92) (v := ?_) (a' := ?_) #[true, true, true, false, true, false, false, false, false] rfl rfl (any_of HT_.out (by kernel_rfl)) (fun _ _ _ h => h) (Or.inl ⟨by rfl, ?_⟩) ?_ ?_
              rotate_left
              · intro w'
                go_simp
                with_reducible rfl
              rotate_left
              · simp only [Act.put, List.setIfInBounds_toArray, List.set_cons_zero, List.set_cons_succ, i64_w, i32_w]
                rfl
              refine take_ (i := 3) (N := some 93) (v := ?_) (a' := ?_) #[true, true, true, true, true, false, false, false, false] rfl rfl (take_ofW HT_.out HW_.out (by kernel_rfl)) (fun _ _ _ h => h) (Or.inl ⟨by rfl, ?_⟩) hHeld ?_ ?_
              rotate_left
              · rintro w' ⟨s0, s1, s2, s3, s4, s5, s6, s7, s8, s9, s10, s11, s12, s13, s14, s15, s16, s17, s18, s19, s20, s21⟩
                go_simp
                with_reducible rfl
              rotate_left
              · simp only [Act.put, List.setIfInBounds_toArray, List.set_cons_zero, List.set_cons_succ, i64_w, i32_w]
                rfl
              refine take_ (i := 5) (N := some 95) (v := ?_) (a' := ?_) #[true, true, true, true, true, true, false, false, false] rfl rfl (take_ofW HT_.out HW_.out (by kernel_rfl)) (fun _ _ _ h => h) (Or.inl ⟨by rfl, ?_⟩) hHeld ?_ ?_
              rotate_left
              · rintro w' ⟨s0, s1, s2, s3, s4, s5, s6, s7, s8, s9, s10, s11, s12, s13, s14, s15, s16, s17, s18, s19, s20, s21⟩
                go_simp
                with_reducible rfl
              rotate_left
              · simp only [Act.put, List.setIfInBounds_toArray, List.set_cons_zero, List.set_cons_succ, i64_w, i32_w]
                rfl
              refine pure_ (i := 6) (N := some 96) (v := ?_) (a' := ?_) #[true, true, true, true, true, true, true, false, false] rfl rfl (any_of HT_.out (by kernel_rfl)) (fun _ _ _ h => h) (Or.inl ⟨by rfl, ?_⟩) ?_ ?_
              rotate_left
              · intro w'
                go_simp
                with_reducible rfl
              rotate_left
              · simp only [Act.put, List.setIfInBounds_toArray, List.set_cons_zero, List.set_cons_succ, i64_w, i32_w]
                rfl
              refine take_ (i := 7) (N := some 97) (v := ?_) (a' := ?_) #[true, true, true, true, true, true, true, true, false] rfl rfl (take_ofW HT_.out HW_.out (by kernel_rfl)) (fun _ _ _ h => h) (Or.inl ⟨by rfl, ?_⟩) hHeld ?_ ?_
              rotate_left
              · rintro w' ⟨s0, s1, s2, s3, s4, s5, s6, s7, s8, s9, s10, s11, s12, s13, s14, s15, s16, s17, s18, s19, s20, s21⟩
                go_simp
                with_reducible rfl
              rotate_left
              · simp only [Act.put, List.setIfInBounds_toArray, List.set_cons_zero, List.set_cons_succ, i64_w, i32_w]
                rfl
              refine pure_ (i := 8) (N := some 98) (v := ?_) (a' := ?_) #[true, true, true, true, true, true, true, true, true] rfl rfl (any_of HT_.out (by kernel_rfl)) (fun _ _ _ h => h) (Or.inl ⟨by rfl, ?_⟩) ?_ ?_
              rotate_left
              · intro w'
                go_simp
                with_reducible rfl
              rotate_left
              · simp only [Act.put, List.setIfInBounds_toArray, List.set_cons_zero, List.set_cons_succ, i64_w, i32_w]
                rfl
              refine done_ (done_of HT_.out (by kernel_rfl)) ?_
              try go_wp2
              go_meet
              case rel => exact ⟨_, (t220), (t232), (y254), (.slice Ao17 t220.length co17), (.slice Ao24 t232.length co24), (.slice (some ⟨go92, 0, none⟩) t247.length co74), H', ⟨by have := HJ6.out; have := HK2.out; have := HJ60.out; first | omega | exact Nat.le_refl _⟩, ⟨rk_ HO_224005⟩, ⟨rk_ HO_224006⟩, ⟨rk_ HO_236005⟩, ⟨rk_ HO_236006⟩, ⟨rk_ HO_251005⟩, ⟨rk_ HO_251006⟩, ⟨bk_ BK210⟩, ⟨bk_ BK223⟩, ⟨bk_ BK235⟩, ⟨bk_ BK250⟩, ⟨be_ HB⟩⟩
            rw [if_neg c93] at H
            exact absurd H (by simp)
          rw [if_neg c91] at H
          exact absurd H (by simp)
        rw [if_neg c90] at H
        have c90b0 : decide (0 < (t247.length : Int)) = false := decide_eq_false c90
        have c90b1 : decide (0 < t247.length) = false := decide_eq_false (by omega)
        clear c90
        (first | rw [c90b0] | (simp only [i64_w, i32_w]; rw [c90b0]) | rw [c90b1] | skip)
        have H' := Aside0.mk H
        clear H
        go_wp2
        go_meet
        case rel => exact ⟨_, (t220), (t232), (t247), (.slice Ao17 t220.length co17), (.slice Ao24 t232.length co24), (.slice Ao74 t247.length co74), H', ⟨by have := HJ6.out; have := HK2.out; have := HJ60.out; first | omega | exact Nat.le_refl _⟩, ⟨rk_ HO_224005⟩, ⟨rk_ HO_224006⟩, ⟨rk_ HO_236005⟩, ⟨rk_ HO_236006⟩, ⟨rk_ HO_251005⟩, ⟨rk_ HO_251006⟩, ⟨bk_ BK210⟩, ⟨bk_ BK223⟩, ⟨bk_ BK235⟩, ⟨bk_ BK250⟩, ⟨be_ HB⟩⟩
       clear HC85
       obtain ⟨kq, x224006_84, x236006_84, x251006_84, u224006, u236006, u251006, HA, HJ84, HO_224005, HO_224006, HO_236005, HO_236006, HO_251005, HO_251006, BK210, BK223, BK235, BK250, HB⟩ := hcut
       cases kq with
       | zero => exact absurd HA.out (by simp [busbarlaw21_BudgetFits.j3])
       | succ kj84 =>
        have H := HA.out
        clear HA
        simp only [busbarlaw21_BudgetFits.j3] at H
        replace H := Option.bind_eq_some_iff.mp H
        obtain ⟨t257, A1030, H⟩ := H
        replace H : (if t257 = 0 then (if (x224006_84.length : Int) = (l0_6.length : Int) then ((busbarlaw21_one.f kj84).bind fun t258 => (some t258)) else (some false)) else ((busbarlaw21_one.f kj84).bind fun t259 => (some t259))) = some r := H
        have A103 := Aside0.mk A1030
        clear A1030
        by_cases c104 : t257 = 0
        · rw [if_pos c104] at H
          have c104b0 : (t257 == 0) = true := beq_iff_eq.mpr c104
          have c104b1 : (t257 != 0) = false := bne_eq_false_iff_eq.mpr c104
          clear c104
          by_cases c105 : (x224006_84.length : Int) = (l0_6.length : Int)
          · rw [if_pos c105] at H
            have c105b0 : ((x224006_84.length : Int) == (l0_6.length : Int)) = true := beq_iff_eq.mpr c105
            have c105b1 : ((x224006_84.length : Int) != (l0_6.length : Int)) = false := bne_eq_false_iff_eq.mpr c105
            have c105b2 : (x224006_84.length == l0_6.length) = true := by first | simpa using c105 | (simp at c105 ⊢; omega)
            clear c105
            replace H := Option.bind_eq_some_iff.mp H
            obtain ⟨t258, A1060, H⟩ := H
            replace H : (some t258) = some r := H
            have A106 := Aside0.mk A1060
            clear A1060
            obtain rfl := Option.some.inj H
            have hnb107 := NB210_223.out
            have hnc107 := NB223_210.out
            have hnb108 := NB210_235.out
            have hnc108 := NB235_210.out
            have hnb109 := NB210_250.out
            have hnc109 := NB250_210.out
            obtain ⟨hcz110_0, hcz110_1, hcz110_2, hcz110_3, hcz110_4, hcz110_5, hcz110_6⟩ := bc7_ BK210
            obtain ⟨hfz110_0, hfz110_1, hfz110_2, hfz110_3, hfz110_4, hfz110_5, hfz110_6⟩ := bz7_ BK210
            go_wp2_with (first | ((with_reducible refine gate_callee (f := 23) rfl ?_); refine goesL_ (some 101) rfl rfl Try.func23 (by kernel_rfl) rfl #[.agg #[.int .i64 a0_0, .int .i64 a0_1, .bool a0_2, .int .i64 a0_3, .int .i64 a0_4, .slice A0_5 l0_5.length c0_5, .slice A0_6 l0_6.length c0_6], .int .i64 a1] rfl (by (try simp only [List.map_toArray, List.map_cons, List.map_nil]); first | done | rfl | (simp only [List.length_drop, List.length_take]; rfl)) ?_; (with_reducible refine (budget_Course_Check.calls a0_0 a0_1 a0_2 a0_3 a0_4 _ _ l0_5 _ _ l0_6 a1 t257 _ ?side1 ?side2 ?side3 ?side4 A103.out).mono ?_); (case side1 => repeat (first | exact (Kd.C_below HR0_5.out HB.out) | (with_reducible refine Kd.C_alloc ?_ _) | (with_reducible refine Kd.C_drewN ?_ _) | (with_reducible refine Kd.C_drew ?_))); (case side2 => exact HC0_5.out); (case side3 => repeat (first | exact (Kd.C_below HR0_6.out HB.out) | (with_reducible refine Kd.C_alloc ?_ _) | (with_reducible refine Kd.C_drewN ?_ _) | (with_reducible refine Kd.C_drew ?_))); (case side4 => exact HC0_6.out); rintro e w111 ⟨rfl, hb⟩; refine ⟨_, rfl, ?_⟩; have n0_ := rb_ HO_224005 hb; have n1_ := rb_ HO_224006 hb; have n2_ := rb_ HO_236005 hb; have n3_ := rb_ HO_236006 hb; have n4_ := rb_ HO_251005 hb; have n5_ := rb_ HO_251006 hb; have n6_ := bb_ BK210 hb; have n7_ := bb_ BK223 hb; have n8_ := bb_ BK235 hb; have n9_ := bb_ BK250 hb; have n10_ := Aside0.mk (below_step (be_ HB) hb); clear HO_224005; clear HO_224006; clear HO_236005; clear HO_236006; clear HO_251005; clear HO_251006; clear BK210; clear BK223; clear BK235; clear BK250; clear HB; have HO_224005 := n0_; have HO_224006 := n1_; have HO_236005 := n2_; have HO_236006 := n3_; have HO_251005 := n4_; have HO_251006 := n5_; have BK210 := n6_; have BK223 := n7_; have BK235 := n8_; have BK250 := n9_; have HB := n10_; clear n0_ n1_ n2_ n3_ n4_ n5_ n6_ n7_ n8_ n9_ n10_; (try clear hb); (try clear hb2); (try clear hk); (try clear hi); have hnb112 := NB223_235.out; have hnc112 := NB235_223.out; have hnb113 := NB223_250.out; have hnc113 := NB250_223.out; have hcz114_0 : w111.cell? ⟨gb223, 0, none⟩ = some (.int .i64 t212) := (blk_cell BK223.out 0).trans rfl; have hcz114_1 : w111.cell? ⟨gb223, 1, none⟩ = some (.int .i64 t213) := (blk_cell BK223.out 1).trans rfl; have hcz114_2 : w111.cell? ⟨gb223, 2, none⟩ = some (.bool t214) := (blk_cell BK223.out 2).trans rfl; have hcz114_3 : w111.cell? ⟨gb223, 3, none⟩ = some (.int .i64 t215) := (blk_cell BK223.out 3).trans rfl; have hcz114_4 : w111.cell? ⟨gb223, 4, none⟩ = some (.int .i64 t216) := (blk_cell BK223.out 4).trans rfl; have hcz114_5 : w111.cell? ⟨gb223, 5, none⟩ = some (.slice Ao16 t217.length co16) := (blk_cell BK223.out 5).trans rfl; have hcz114_6 : w111.cell? ⟨gb223, 6, none⟩ = some (u224006) := (blk_cell BK223.out 6).trans rfl; have hfz114_0 := blk_frozen BK223.out 0; have hfz114_1 := blk_frozen BK223.out 1; have hfz114_2 := blk_frozen BK223.out 2; have hfz114_3 := blk_frozen BK223.out 3; have hfz114_4 := blk_frozen BK223.out 4; have hfz114_5 := blk_frozen BK223.out 5; have hfz114_6 := blk_frozen BK223.out 6; obtain ⟨Ao115, co115, eo115⟩ := Kd.R_slice HO_224006.out; subst eo115; have hcz116_0 : w111.cell? ⟨gb210, 0, none⟩ = some (.int .i64 a0_0) := (blk_cell BK210.out 0).trans rfl; have hcz116_1 : w111.cell? ⟨gb210, 1, none⟩ = some (.int .i64 a0_1) := (blk_cell BK210.out 1).trans rfl; have hcz116_2 : w111.cell? ⟨gb210, 2, none⟩ = some (.bool a0_2) := (blk_cell BK210.out 2).trans rfl; have hcz116_3 : w111.cell? ⟨gb210, 3, none⟩ = some (.int .i64 a0_3) := (blk_cell BK210.out 3).trans rfl; have hcz116_4 : w111.cell? ⟨gb210, 4, none⟩ = some (.int .i64 a0_4) := (blk_cell BK210.out 4).trans rfl; have hcz116_5 : w111.cell? ⟨gb210, 5, none⟩ = some (.slice A0_5 l0_5.length c0_5) := (blk_cell BK210.out 5).trans rfl; have hcz116_6 : w111.cell? ⟨gb210, 6, none⟩ = some (.slice A0_6 l0_6.length c0_6) := (blk_cell BK210.out 6).trans rfl; have hfz116_0 := blk_frozen BK210.out 0; have hfz116_1 := blk_frozen BK210.out 1; have hfz116_2 := blk_frozen BK210.out 2; have hfz116_3 := blk_frozen BK210.out 3; have hfz116_4 := blk_frozen BK210.out 4; have hfz116_5 := blk_frozen BK210.out 5; have hfz116_6 := blk_frozen BK210.out 6) | (go_at_call 24; (with_reducible refine (busbarlaw21_one.calls kj84  t258 _ A106.out).mono ?_); rintro e w117 ⟨rfl, hb⟩; have n0_ := rb_ HO_224005 hb; have n1_ := rb_ HO_224006 hb; have n2_ := rb_ HO_236005 hb; have n3_ := rb_ HO_236006 hb; have n4_ := rb_ HO_251005 hb; have n5_ := rb_ HO_251006 hb; have n6_ := bb_ BK210 hb; have n7_ := bb_ BK223 hb; have n8_ := bb_ BK235 hb; have n9_ := bb_ BK250 hb; have n10_ := Aside0.mk (below_step (be_ HB) hb); clear HO_224005; clear HO_224006; clear HO_236005; clear HO_236006; clear HO_251005; clear HO_251006; clear BK210; clear BK223; clear BK235; clear BK250; clear HB; have HO_224005 := n0_; have HO_224006 := n1_; have HO_236005 := n2_; have HO_236006 := n3_; have HO_251005 := n4_; have HO_251006 := n5_; have BK210 := n6_; have BK223 := n7_; have BK235 := n8_; have BK250 := n9_; have HB := n10_; clear n0_ n1_ n2_ n3_ n4_ n5_ n6_ n7_ n8_ n9_ n10_; (try clear hb); (try clear hb2); (try clear hk); (try clear hi)))
            go_ret
            exact ⟨by first | rfl | (simp [errW_none, errW_some] <;> rfl) | (simp [*, errW_none, errW_some] <;> rfl), be_ HB⟩
          rw [if_neg c105] at H
          have c105b0 : ((x224006_84.length : Int) == (l0_6.length : Int)) = false := beq_eq_false_iff_ne.mpr c105
          have c105b1 : ((x224006_84.length : Int) != (l0_6.length : Int)) = true := bne_iff_ne.mpr c105
          have c105b2 : (x224006_84.length == l0_6.length) = false := by first | simpa using c105 | (simp at c105 ⊢; omega)
          obtain rfl := Option.some.inj H
          have hnb118 := NB210_223.out
          have hnc118 := NB223_210.out
          have hnb119 := NB210_235.out
          have hnc119 := NB235_210.out
          have hnb120 := NB210_250.out
          have hnc120 := NB250_210.out
          obtain ⟨hcz121_0, hcz121_1, hcz121_2, hcz121_3, hcz121_4, hcz121_5, hcz121_6⟩ := bc7_ BK210
          obtain ⟨hfz121_0, hfz121_1, hfz121_2, hfz121_3, hfz121_4, hfz121_5, hfz121_6⟩ := bz7_ BK210
          go_wp2_with (first | ((with_reducible refine gate_callee (f := 23) rfl ?_); refine goesL_ (some 101) rfl rfl Try.func23 (by kernel_rfl) rfl #[.agg #[.int .i64 a0_0, .int .i64 a0_1, .bool a0_2, .int .i64 a0_3, .int .i64 a0_4, .slice A0_5 l0_5.length c0_5, .slice A0_6 l0_6.length c0_6], .int .i64 a1] rfl (by (try simp only [List.map_toArray, List.map_cons, List.map_nil]); first | done | rfl | (simp only [List.length_drop, List.length_take]; rfl)) ?_; (with_reducible refine (budget_Course_Check.calls a0_0 a0_1 a0_2 a0_3 a0_4 _ _ l0_5 _ _ l0_6 a1 t257 _ ?side1 ?side2 ?side3 ?side4 A103.out).mono ?_); (case side1 => repeat (first | exact (Kd.C_below HR0_5.out HB.out) | (with_reducible refine Kd.C_alloc ?_ _) | (with_reducible refine Kd.C_drewN ?_ _) | (with_reducible refine Kd.C_drew ?_))); (case side2 => exact HC0_5.out); (case side3 => repeat (first | exact (Kd.C_below HR0_6.out HB.out) | (with_reducible refine Kd.C_alloc ?_ _) | (with_reducible refine Kd.C_drewN ?_ _) | (with_reducible refine Kd.C_drew ?_))); (case side4 => exact HC0_6.out); rintro e w122 ⟨rfl, hb⟩; refine ⟨_, rfl, ?_⟩; have n0_ := rb_ HO_224005 hb; have n1_ := rb_ HO_224006 hb; have n2_ := rb_ HO_236005 hb; have n3_ := rb_ HO_236006 hb; have n4_ := rb_ HO_251005 hb; have n5_ := rb_ HO_251006 hb; have n6_ := bb_ BK210 hb; have n7_ := bb_ BK223 hb; have n8_ := bb_ BK235 hb; have n9_ := bb_ BK250 hb; have n10_ := Aside0.mk (below_step (be_ HB) hb); clear HO_224005; clear HO_224006; clear HO_236005; clear HO_236006; clear HO_251005; clear HO_251006; clear BK210; clear BK223; clear BK235; clear BK250; clear HB; have HO_224005 := n0_; have HO_224006 := n1_; have HO_236005 := n2_; have HO_236006 := n3_; have HO_251005 := n4_; have HO_251006 := n5_; have BK210 := n6_; have BK223 := n7_; have BK235 := n8_; have BK250 := n9_; have HB := n10_; clear n0_ n1_ n2_ n3_ n4_ n5_ n6_ n7_ n8_ n9_ n10_; (try clear hb); (try clear hb2); (try clear hk); (try clear hi); have hnb123 := NB223_235.out; have hnc123 := NB235_223.out; have hnb124 := NB223_250.out; have hnc124 := NB250_223.out; have hcz125_0 : w122.cell? ⟨gb223, 0, none⟩ = some (.int .i64 t212) := (blk_cell BK223.out 0).trans rfl; have hcz125_1 : w122.cell? ⟨gb223, 1, none⟩ = some (.int .i64 t213) := (blk_cell BK223.out 1).trans rfl; have hcz125_2 : w122.cell? ⟨gb223, 2, none⟩ = some (.bool t214) := (blk_cell BK223.out 2).trans rfl; have hcz125_3 : w122.cell? ⟨gb223, 3, none⟩ = some (.int .i64 t215) := (blk_cell BK223.out 3).trans rfl; have hcz125_4 : w122.cell? ⟨gb223, 4, none⟩ = some (.int .i64 t216) := (blk_cell BK223.out 4).trans rfl; have hcz125_5 : w122.cell? ⟨gb223, 5, none⟩ = some (.slice Ao16 t217.length co16) := (blk_cell BK223.out 5).trans rfl; have hcz125_6 : w122.cell? ⟨gb223, 6, none⟩ = some (u224006) := (blk_cell BK223.out 6).trans rfl; have hfz125_0 := blk_frozen BK223.out 0; have hfz125_1 := blk_frozen BK223.out 1; have hfz125_2 := blk_frozen BK223.out 2; have hfz125_3 := blk_frozen BK223.out 3; have hfz125_4 := blk_frozen BK223.out 4; have hfz125_5 := blk_frozen BK223.out 5; have hfz125_6 := blk_frozen BK223.out 6; obtain ⟨Ao126, co126, eo126⟩ := Kd.R_slice HO_224006.out; subst eo126; have hcz127_0 : w122.cell? ⟨gb210, 0, none⟩ = some (.int .i64 a0_0) := (blk_cell BK210.out 0).trans rfl; have hcz127_1 : w122.cell? ⟨gb210, 1, none⟩ = some (.int .i64 a0_1) := (blk_cell BK210.out 1).trans rfl; have hcz127_2 : w122.cell? ⟨gb210, 2, none⟩ = some (.bool a0_2) := (blk_cell BK210.out 2).trans rfl; have hcz127_3 : w122.cell? ⟨gb210, 3, none⟩ = some (.int .i64 a0_3) := (blk_cell BK210.out 3).trans rfl; have hcz127_4 : w122.cell? ⟨gb210, 4, none⟩ = some (.int .i64 a0_4) := (blk_cell BK210.out 4).trans rfl; have hcz127_5 : w122.cell? ⟨gb210, 5, none⟩ = some (.slice A0_5 l0_5.length c0_5) := (blk_cell BK210.out 5).trans rfl; have hcz127_6 : w122.cell? ⟨gb210, 6, none⟩ = some (.slice A0_6 l0_6.length c0_6) := (blk_cell BK210.out 6).trans rfl; have hfz127_0 := blk_frozen BK210.out 0; have hfz127_1 := blk_frozen BK210.out 1; have hfz127_2 := blk_frozen BK210.out 2; have hfz127_3 := blk_frozen BK210.out 3; have hfz127_4 := blk_frozen BK210.out 4; have hfz127_5 := blk_frozen BK210.out 5; have hfz127_6 := blk_frozen BK210.out 6))
          go_ret
          exact ⟨by first | rfl | (simp [errW_none, errW_some] <;> rfl) | (simp [*, errW_none, errW_some] <;> rfl), be_ HB⟩
        rw [if_neg c104] at H
        have c104b0 : (t257 == 0) = false := beq_eq_false_iff_ne.mpr c104
        have c104b1 : (t257 != 0) = true := bne_iff_ne.mpr c104
        replace H := Option.bind_eq_some_iff.mp H
        obtain ⟨t259, A1280, H⟩ := H
        replace H : (some t259) = some r := H
        have A128 := Aside0.mk A1280
        clear A1280
        obtain rfl := Option.some.inj H
        have hnb129 := NB210_223.out
        have hnc129 := NB223_210.out
        have hnb130 := NB210_235.out
        have hnc130 := NB235_210.out
        have hnb131 := NB210_250.out
        have hnc131 := NB250_210.out
        obtain ⟨hcz132_0, hcz132_1, hcz132_2, hcz132_3, hcz132_4, hcz132_5, hcz132_6⟩ := bc7_ BK210
        obtain ⟨hfz132_0, hfz132_1, hfz132_2, hfz132_3, hfz132_4, hfz132_5, hfz132_6⟩ := bz7_ BK210
        go_wp2_with (first | ((with_reducible refine gate_callee (f := 23) rfl ?_); refine goesL_ (some 101) rfl rfl Try.func23 (by kernel_rfl) rfl #[.agg #[.int .i64 a0_0, .int .i64 a0_1, .bool a0_2, .int .i64 a0_3, .int .i64 a0_4, .slice A0_5 l0_5.length c0_5, .slice A0_6 l0_6.length c0_6], .int .i64 a1] rfl (by (try simp only [List.map_toArray, List.map_cons, List.map_nil]); first | done | rfl | (simp only [List.length_drop, List.length_take]; rfl)) ?_; (with_reducible refine (budget_Course_Check.calls a0_0 a0_1 a0_2 a0_3 a0_4 _ _ l0_5 _ _ l0_6 a1 t257 _ ?side1 ?side2 ?side3 ?side4 A103.out).mono ?_); (case side1 => repeat (first | exact (Kd.C_below HR0_5.out HB.out) | (with_reducible refine Kd.C_alloc ?_ _) | (with_reducible refine Kd.C_drewN ?_ _) | (with_reducible refine Kd.C_drew ?_))); (case side2 => exact HC0_5.out); (case side3 => repeat (first | exact (Kd.C_below HR0_6.out HB.out) | (with_reducible refine Kd.C_alloc ?_ _) | (with_reducible refine Kd.C_drewN ?_ _) | (with_reducible refine Kd.C_drew ?_))); (case side4 => exact HC0_6.out); rintro e w133 ⟨rfl, hb⟩; refine ⟨_, rfl, ?_⟩; have n0_ := rb_ HO_224005 hb; have n1_ := rb_ HO_224006 hb; have n2_ := rb_ HO_236005 hb; have n3_ := rb_ HO_236006 hb; have n4_ := rb_ HO_251005 hb; have n5_ := rb_ HO_251006 hb; have n6_ := bb_ BK210 hb; have n7_ := bb_ BK223 hb; have n8_ := bb_ BK235 hb; have n9_ := bb_ BK250 hb; have n10_ := Aside0.mk (below_step (be_ HB) hb); clear HO_224005; clear HO_224006; clear HO_236005; clear HO_236006; clear HO_251005; clear HO_251006; clear BK210; clear BK223; clear BK235; clear BK250; clear HB; have HO_224005 := n0_; have HO_224006 := n1_; have HO_236005 := n2_; have HO_236006 := n3_; have HO_251005 := n4_; have HO_251006 := n5_; have BK210 := n6_; have BK223 := n7_; have BK235 := n8_; have BK250 := n9_; have HB := n10_; clear n0_ n1_ n2_ n3_ n4_ n5_ n6_ n7_ n8_ n9_ n10_; (try clear hb); (try clear hb2); (try clear hk); (try clear hi)) | (go_at_call 24; (with_reducible refine (busbarlaw21_one.calls kj84  t259 _ A128.out).mono ?_); rintro e w134 ⟨rfl, hb⟩; have n0_ := rb_ HO_224005 hb; have n1_ := rb_ HO_224006 hb; have n2_ := rb_ HO_236005 hb; have n3_ := rb_ HO_236006 hb; have n4_ := rb_ HO_251005 hb; have n5_ := rb_ HO_251006 hb; have n6_ := bb_ BK210 hb; have n7_ := bb_ BK223 hb; have n8_ := bb_ BK235 hb; have n9_ := bb_ BK250 hb; have n10_ := Aside0.mk (below_step (be_ HB) hb); clear HO_224005; clear HO_224006; clear HO_236005; clear HO_236006; clear HO_251005; clear HO_251006; clear BK210; clear BK223; clear BK235; clear BK250; clear HB; have HO_224005 := n0_; have HO_224006 := n1_; have HO_236005 := n2_; have HO_236006 := n3_; have HO_251005 := n4_; have HO_251006 := n5_; have BK210 := n6_; have BK223 := n7_; have BK235 := n8_; have BK250 := n9_; have HB := n10_; clear n0_ n1_ n2_ n3_ n4_ n5_ n6_ n7_ n8_ n9_ n10_; (try clear hb); (try clear hb2); (try clear hk); (try clear hi)))
        go_ret
        exact ⟨by first | rfl | (simp [errW_none, errW_some] <;> rfl) | (simp [*, errW_none, errW_some] <;> rfl), be_ HB⟩
 replace c4 := Bool.eq_false_iff.mpr c4
 subst c4
 have H1 : (some true) = some r := by rw [if_neg (show ¬ (false = true) by decide)] at H; exact H
 clear H
 have H := H1
 clear H1
 obtain rfl := Option.some.inj H
 go_enter Try.func4, Try.ntmps4
 go_wp2_with (first | ((with_reducible refine gate_dst (N := 2) rfl ?_); (try (refine gate_guard (by rfl) ?_; dsimp only)); refine box_event ?hg (N := 2) ?hd (cs := #[.int .i64 a0_0, .int .i64 a0_1, .bool a0_2, .int .i64 a0_3, .int .i64 a0_4, .slice A0_5 l0_5.length c0_5, .slice A0_6 l0_6.length c0_6]) (t := 27) ?hr ?_; (case hd => rfl); (case hg => rfl); (case hr => first | (go_simp; done) | (go_simp; rfl)); intro gb210 hg w135 hbox hb; have n0_ := Aside0.mk (below_step (be_ HB) hb); have n1_ := Aside0.mk (hbox); have n2_ := Aside0.mk ((by rw [hg]; exact (below_size (be_ HB)) : w.heap.size ≤ gb210)); have n3_ := Aside0.mk ((by rw [hg]; exact (below_size (be_ HB)) : w.heap.size ≤ gb210)); clear HB; have HB := n0_; have BK210 := n1_; have GW210 := n2_; have GE210 := n3_; clear n0_ n1_ n2_ n3_; clear hb hbox hg; have hcz136_0 : w135.cell? ⟨gb210, 0, none⟩ = some (.int .i64 a0_0) := (blk_cell BK210.out 0).trans rfl; have hcz136_1 : w135.cell? ⟨gb210, 1, none⟩ = some (.int .i64 a0_1) := (blk_cell BK210.out 1).trans rfl; have hcz136_2 : w135.cell? ⟨gb210, 2, none⟩ = some (.bool a0_2) := (blk_cell BK210.out 2).trans rfl; have hcz136_3 : w135.cell? ⟨gb210, 3, none⟩ = some (.int .i64 a0_3) := (blk_cell BK210.out 3).trans rfl; have hcz136_4 : w135.cell? ⟨gb210, 4, none⟩ = some (.int .i64 a0_4) := (blk_cell BK210.out 4).trans rfl; have hcz136_5 : w135.cell? ⟨gb210, 5, none⟩ = some (.slice A0_5 l0_5.length c0_5) := (blk_cell BK210.out 5).trans rfl; have hcz136_6 : w135.cell? ⟨gb210, 6, none⟩ = some (.slice A0_6 l0_6.length c0_6) := (blk_cell BK210.out 6).trans rfl; have hfz136_0 := blk_frozen BK210.out 0; have hfz136_1 := blk_frozen BK210.out 1; have hfz136_2 := blk_frozen BK210.out 2; have hfz136_3 := blk_frozen BK210.out 3; have hfz136_4 := blk_frozen BK210.out 4; have hfz136_5 := blk_frozen BK210.out 5; have hfz136_6 := blk_frozen BK210.out 6) | ((with_reducible refine gate_callee (f := 17) rfl ?_); refine goesL_ (some 10) rfl rfl Try.func17 (by kernel_rfl) rfl #[.agg #[.int .i64 a0_0, .int .i64 a0_1, .bool a0_2, .int .i64 a0_3, .int .i64 a0_4, .slice A0_5 l0_5.length c0_5, .slice A0_6 l0_6.length c0_6]] rfl (by (try simp only [List.map_toArray, List.map_cons, List.map_nil]); first | done | rfl | (simp only [List.length_drop, List.length_take]; rfl)) ?_; (with_reducible refine (busbarlaw21_few.calls a0_0 a0_1 a0_2 a0_3 a0_4 _ _ l0_5 _ _ l0_6 false _ ?side1 ?side2 ?side3 ?side4 A3.out).mono ?_); (case side1 => repeat (first | exact (Kd.C_below HR0_5.out HB.out) | (with_reducible refine Kd.C_alloc ?_ _) | (with_reducible refine Kd.C_drewN ?_ _) | (with_reducible refine Kd.C_drew ?_))); (case side2 => exact HC0_5.out); (case side3 => repeat (first | exact (Kd.C_below HR0_6.out HB.out) | (with_reducible refine Kd.C_alloc ?_ _) | (with_reducible refine Kd.C_drewN ?_ _) | (with_reducible refine Kd.C_drew ?_))); (case side4 => exact HC0_6.out); rintro e w137 ⟨rfl, hb⟩; refine ⟨_, rfl, ?_⟩; have n0_ := bb_ BK210 hb; have n1_ := Aside0.mk (below_step (be_ HB) hb); clear BK210; clear HB; have BK210 := n0_; have HB := n1_; clear n0_ n1_; (try clear hb); (try clear hb2); (try clear hk); (try clear hi)))
 go_ret
 exact ⟨by first | rfl | (simp [errW_none, errW_some] <;> rfl) | (simp [*, errW_none, errW_some] <;> rfl), be_ HB⟩

end Go.Proofs.Ytfmepbpipknblaa.PBu
