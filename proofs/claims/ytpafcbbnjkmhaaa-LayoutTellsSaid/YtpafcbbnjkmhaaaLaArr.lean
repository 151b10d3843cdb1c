/- A row of 64 bools as a value, and in a block. Helper text. -/
import Derived.Test.YtpafcbbnjkmhaaaK4
namespace Go.Proofs.Ytpafcbbnjkmhaaa.PLa
open Go.RowKit
set_option linter.unusedVariables false
set_option linter.unusedSimpArgs false

def arrB (m : Nat → Bool) : Array Value := Array.ofFn fun i : Fin 64 => .bool (m i.1)
theorem arrB_size (m : Nat → Bool) : (arrB m).size = 64 := by simp [arrB]
theorem arrB_get {m : Nat → Bool} {i : Nat} (h : i < 64) : (arrB m)[i]? = some (.bool (m i)) := by
  simp [arrB, h]
theorem arrB_set {m : Nat → Bool} {i : Nat} (h : i < 64) (b : Bool) : (arrB m).setIfInBounds i (.bool b) = arrB fun j => if j = i then b else m j := by
  apply Array.ext_getElem?
  intro j
  rw [Array.getElem?_setIfInBounds]
  by_cases hj : j < 64
  · rw [arrB_get hj, arrB_get hj]
    by_cases e : i = j
    · subst e
      simp [arrB_size, h]
    · rw [if_neg e, if_neg (Ne.symm e)]
  · have e : i ≠ j := by omega
    rw [if_neg e, Array.getElem?_eq_none (by rw [arrB_size]; omega), Array.getElem?_eq_none (by rw [arrB_size]; omega)]
theorem arrB_one (m : Nat → Bool) : (arrB m).all (·.oneCell') = true := by
  rw [Array.all_eq_true]
  intro i hi
  have h : i < 64 := by rwa [arrB_size] at hi
  have := arrB_get (m := m) h
  rw [Array.getElem?_eq_getElem hi] at this
  rw [Option.some.inj this]
  rfl
theorem arrB_cell {w : World} {g : Nat} {t : TypeId} {fr : Nat × Nat} {m : Nat → Bool} {i : Nat} (hb : w.heap[g]? = some (.cells (arrB m) t fr)) (h : i < 64) : w.cell? ⟨g, i, none⟩ = some (.bool (m i)) := by
  simp only [World.cell?, hb]
  rw [if_neg (by simp), arrB_get h]
theorem arrB_put {w : World} {g : Nat} {t : TypeId} {m : Nat → Bool} {i : Nat} (hb : w.heap[g]? = some (.cells (arrB m) t (0, 0))) (h : i < 64) (b : Bool) : (w.setCell ⟨g, i, none⟩ (.bool b)).heap[g]? = some (.cells (arrB fun j => if j = i then b else m j) t (0, 0)) := by
  have hg : g < w.heap.size := (Array.getElem?_eq_some_iff.1 hb).1
  rw [← arrB_set h b]
  simp only [World.setCell, Array.getElem?_modify, hb]
  simp
end Go.Proofs.Ytpafcbbnjkmhaaa.PLa
