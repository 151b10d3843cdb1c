/- listing.verbs, Line: walks. Helper text. -/
import Derived.Test.YtmoodblpgnnenaaDoorLsNms
import Derived.Test.YtmoodblpgnnenaaDoorLsNu2
import Derived.Test.YtmoodblpgnnenaaDoorPWvJn
import Derived.Deep.RegionHeld3
namespace Go.Proofs.YtmoodblpgnnenaaDoor.PLs
open Go.RowKit Go.Proofs.YtmoodblpgnnenaaDoor.Kx Go.Proofs.YtmoodblpgnnenaaDoor.PWe Go.Proofs.YtmoodblpgnnenaaDoorW.PrintWords Go.Proofs.YtmoodblpgnnenaaDoorW.PrintLast Go.Proofs.YtmoodblpgnnenaaDoorW.PrintMore
set_option linter.unusedVariables false
set_option linter.unusedSimpArgs false
/-- The verbs. -/
def vbs : List (List UInt8) := [[101, 110, 100], [115, 101, 110, 100], [116, 97, 107, 101], [112, 97, 115, 115], [103, 97, 112], [115, 104, 111, 114, 116], [99, 97, 108, 108], [114, 101, 116, 117, 114, 110], [106, 117, 109, 112]]
def vb (o : Nat) : List UInt8 := vbs.getD o []
def vbC : Array Value := (vbs.map fun b => Value.string (strB b)).toArray
set_option maxRecDepth 100000 in
theorem verbs_calls (w : World) : Calls Tryd.prog 38 #[] w fun e w' => e = .returned (.slice (some ⟨w.heap.size, 0, none⟩) 9 9) ∧ w' = w.alloc (.cells vbC 9 (0, 0)) := by
  go_enter Tryd.func38, Tryd.ntmps38
  go_wp2
  go_ret
  exact ⟨rfl, rfl⟩
theorem vbC_get {o : Nat} (h : o ≤ 8) : vbC[o]? = some (.string (strB (vb o))) := by
  have h2 : o = 0 ∨ o = 1 ∨ o = 2 ∨ o = 3 ∨ o = 4 ∨ o = 5 ∨ o = 6 ∨ o = 7 ∨ o = 8 := by omega
  rcases h2 with rfl | rfl | rfl | rfl | rfl | rfl | rfl | rfl | rfl <;> rfl
/-- The pieces of a command's line. -/
def pcs (L : List Int) (o : Nat) : List (List UInt8) := vb o :: (offN (o : Int)).map fun j => digP (L.getD j 0).toNat
def lineP (L : List Int) : List UInt8 := if rightL L = true then glue 32 (pcs L (L.getD 0 0).toNat) else []
theorem join_glue (c : UInt8) : ∀ l : List (List UInt8), Lib.join l [c] = glue c l
  | [] => rfl
  | [p] => Lib.join_one p [c]
  | p :: q :: r => by
    have ih := join_glue c (q :: r)
    show _ = p ++ c :: glue c (q :: r)
    rw [← ih, Lib.join_cons]
    cases r with
    | nil => simp [Lib.joinTail, Lib.join_one]
    | cons x y => rw [Lib.join_cons]; simp [Lib.joinTail]
theorem offN_len (op : Int) : (offN op).length ≤ 4 := by
  unfold offN
  split; simp
  split; simp
  split; simp
  split; simp
  split <;> simp
theorem offN_at (op : Int) {j : Nat} (h : j < (offN op).length) : 1 ≤ (offN op).getD j 0 ∧ (offN op).getD j 0 ≤ 6 := by
  have key : ∀ x ∈ offN op, 1 ≤ x ∧ x ≤ 6 := by
    unfold offN
    split; decide
    split; decide
    split; decide
    split; decide
    split <;> decide
  have := key (offN op)[j] (List.getElem_mem h)
  rw [List.getD_eq_getElem?_getD, List.getElem?_eq_getElem h]
  exact this
/-- What is right has small numbers. -/
theorem right_small {a0 a1 a2 a3 a4 a5 a6 : Int} {L : List Int} (hL : [a0, a1, a2, a3, a4, a5, a6] = L) (h : rightP a0 a1 a2 a3 a4 a5 a6 = true) : (0 ≤ a0 ∧ a0 ≤ 8) ∧ ∀ j ∈ offN a0, 0 ≤ L.getD j 0 ∧ L.getD j 0 ≤ 1023 := by
  subst hL
  rw [rightP_iff] at h
  obtain ⟨h0, h1, h2, h3, h4, h5⟩ := h
  refine ⟨h0, ?_⟩
  rcases (by omega : a0 = 0 ∨ a0 = 1 ∨ a0 = 2 ∨ a0 = 3 ∨ a0 = 4 ∨ a0 = 5 ∨ a0 = 6 ∨ a0 = 7 ∨ a0 = 8) with rfl | rfl | rfl | rfl | rfl | rfl | rfl | rfl | rfl
  all_goals intro j hj
  all_goals simp [offN] at hj
  all_goals (try (rcases hj with rfl | rfl | rfl | rfl))
  all_goals (try (rcases hj with rfl | rfl | rfl))
  all_goals (try (rcases hj with rfl | rfl))
  all_goals (try subst hj)
  all_goals simp only [List.getD_cons_succ, List.getD_cons_zero]
  all_goals simp at h1 h2 h3 h4 h5
  all_goals omega
end Go.Proofs.YtmoodblpgnnenaaDoor.PLs
