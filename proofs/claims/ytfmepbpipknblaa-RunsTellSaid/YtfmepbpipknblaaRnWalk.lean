/- What each method of runs does to the block of a Runs that was made: contracts of the functions of layer 6. Helper text. -/
import Derived.Test.YtfmepbpipknblaaProg
import Derived.Test.YtfmepbpipknblaaKx
import Derived.Test.YtfmepbpipknblaaRnPure
import Derived.WalkKit
import Derived.WalkSpells
import Derived.WalkLawsBesides

namespace Go.Proofs.Ytfmepbpipknblaa.Rn
open Go.RowKit Go.Proofs.Ytfmepbpipknblaa.Kx
set_option linter.unusedVariables false
set_option linter.unusedSimpArgs false

structure St where
  a : Int
  b : Int
  c : Int
  d : Int
  was : Int
  since : Int

def St.cells (s : St) : Array Value := #[.bool true, .int .i64 s.a, .int .i64 s.b, .int .i64 s.c, .int .i64 s.d, .int .i64 s.was, .int .i64 s.since]
def At (w : World) (g : Nat) (s : St) : Prop := w.heap[g]? = some (.cells s.cells 122 (0, 0))
theorem At.cell {w : World} {g : Nat} {s : St} (h : At w g s) :
    w.cell? ⟨g, 0, none⟩ = some (.bool true) ∧ w.cell? ⟨g, 1, none⟩ = some (.int .i64 s.a) ∧ w.cell? ⟨g, 2, none⟩ = some (.int .i64 s.b) ∧ w.cell? ⟨g, 3, none⟩ = some (.int .i64 s.c) ∧ w.cell? ⟨g, 4, none⟩ = some (.int .i64 s.d) ∧ w.cell? ⟨g, 5, none⟩ = some (.int .i64 s.was) ∧ w.cell? ⟨g, 6, none⟩ = some (.int .i64 s.since) := by
  refine ⟨?_, ?_, ?_, ?_, ?_, ?_, ?_⟩ <;> (rw [cell_in h]; rfl)
theorem At.free {w : World} {g : Nat} {s : St} (h : At w g s) (i : Nat) : w.frozen? ⟨g, i, none⟩ = false := free_in h i

theorem new_any (w : World) : Calls Try.prog 57 #[] w fun e w' =>
    e = .returned (.pointer (some ⟨w.heap.size, 0, none⟩)) ∧ w' = w.alloc (.cells (St.cells ⟨0, 0, 0, 0, 0, 0⟩) 122) := by
  go_enter Try.func57, Try.ntmps57
  go_wp2
  go_ret
  exact ⟨rfl, rfl⟩

theorem none_made (g : Nat) (s : St) (w : World) (h : At w g s) : Calls Try.prog 106 #[.pointer (some ⟨g, 0, none⟩)] w fun e w' =>
    e = .returned (.bool false) ∧ w = w' := by
  obtain ⟨h0, _⟩ := h.cell
  clear h
  go_enter Try.func106, Try.ntmps106
  go_wp2
  go_ret
  exact ⟨rfl, rfl⟩
theorem none_nil (w : World) : Calls Try.prog 106 #[.pointer none] w fun e w' =>
    e = .returned (.bool true) ∧ w = w' := by
  go_enter Try.func106, Try.ntmps106
  go_wp2
  go_ret
  exact ⟨rfl, rfl⟩
theorem none_plain (g : Nat) (w : World) (h : w.cell? ⟨g, 0, none⟩ = some (.bool false)) : Calls Try.prog 106 #[.pointer (some ⟨g, 0, none⟩)] w fun e w' =>
    e = .returned (.bool true) ∧ w = w' := by
  go_enter Try.func106, Try.ntmps106
  go_wp2
  go_ret
  exact ⟨rfl, rfl⟩

def isB (n : Int) : Bool := decide (0 ≤ n) && decide (n ≤ 3)
theorem is_yes (n : Int) (h0 : 0 ≤ n) (h1 : n ≤ 3) (w : World) : Calls Try.prog 112 #[.int .i64 n] w fun e w' => e = .returned (.bool true) ∧ w = w' := by
  go_enter Try.func112, Try.ntmps112
  go_wp2
  go_ret
  exact ⟨by simp [h0, h1], rfl⟩
theorem is_no (n : Int) (h : n < 0 ∨ 3 < n) (w : World) : Calls Try.prog 112 #[.int .i64 n] w fun e w' => e = .returned (.bool false) ∧ w = w' := by
  rcases h with h | h
  · go_enter Try.func112, Try.ntmps112
    go_wp2
    go_ret
    exact ⟨by simp; try omega, rfl⟩
  · go_enter Try.func112, Try.ntmps112
    go_wp2
    go_ret
    exact ⟨by simp; try omega, rfl⟩

/-- Is a line high? -/
def hi (l : Int) (n : Nat) : Bool := l / 2 ^ n % 2 == 1

theorem high_no (l n : Int) (h : n < 0 ∨ 3 < n) (w : World) : Calls Try.prog 108 #[.int .u8 l, .int .i64 n] w fun e w' => e = .returned (.bool false) ∧ w = w' := by
  go_enter Try.func108, Try.ntmps108
  go_wp2_with (go_at_call 112; refine (is_no _ h _).mono ?_; rintro e w' ⟨rfl, rfl⟩)
  go_ret
  exact ⟨rfl, rfl⟩
theorem and_one (x : Int) (h0 : 0 ≤ x) (h1 : x ≤ 255) : (bits .and .u8 x 1 == 1) = (x % 2 == 1) := by
  rw [u8_and x 1 h0 (by omega) (by omega) (by omega)]
  have : ((x.toNat &&& (1 : Int).toNat : Nat) : Int) = x % 2 := by
    show ((x.toNat &&& 1 : Nat) : Int) = _
    rw [Nat.and_one_is_mod]
    omega
  rw [this]
theorem high_yes (l : Int) (n : Nat) (hn : n < 4) (h0 : 0 ≤ l) (h1 : l ≤ 255) (w : World) : Calls Try.prog 108 #[.int .u8 l, .int .i64 n] w fun e w' => e = .returned (.bool (hi l n)) ∧ w = w' := by
  have e0 := and_one (l / 2 ^ n) (Int.ediv_nonneg h0 (by apply Int.pow_nonneg; omega)) (Int.le_trans (Int.ediv_le_self _ h0) h1)
  obtain rfl | rfl | rfl | rfl : n = 0 ∨ n = 1 ∨ n = 2 ∨ n = 3 := by omega
  all_goals
    have E0 := hid e0
    clear e0
    go_enter Try.func108, Try.ntmps108
    go_wp2_with (go_at_call 112; refine (is_yes _ (by omega) (by omega) _).mono ?_; rintro e w' ⟨rfl, rfl⟩)
    go_ret
    refine ⟨?_, rfl⟩
    unfold hi
    rw [← E0.out]
    simp
end Go.Proofs.Ytfmepbpipknblaa.Rn
