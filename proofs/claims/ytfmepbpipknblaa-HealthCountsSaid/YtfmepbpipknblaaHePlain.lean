/- Health: plain laws of seven numbers and of events. Helper text. -/
import Derived.Test.YtfmepbpipknblaaHeNum
import Derived.Test.YtfmepbpipknblaaK4
namespace Go.Proofs.Ytfmepbpipknblaa.He
open Go.RowKit Go.Proofs.Ytfmepbpipknblaa.Kx
set_option linter.unusedVariables false
set_option linter.unusedSimpArgs false

def H7 (h : Nat → Int) : Array Value := #[.int .i64 (h 0), .int .i64 (h 1), .int .i64 (h 2), .int .i64 (h 3), .int .i64 (h 4), .int .i64 (h 5), .int .i64 (h 6)]
theorem seven (k : Nat) (hk : k < 7) : k = 0 ∨ k = 1 ∨ k = 2 ∨ k = 3 ∨ k = 4 ∨ k = 5 ∨ k = 6 := by omega
theorem H7_at (h : Nat → Int) (k : Nat) (hk : k < 7) : (H7 h)[k]? = some (.int .i64 (h k)) := by
  obtain rfl | rfl | rfl | rfl | rfl | rfl | rfl := seven k hk
  all_goals rfl
theorem H7_congr {h h' : Nat → Int} (e : ∀ k, k < 7 → h k = h' k) : H7 h = H7 h' := by
  unfold H7
  rw [e 0 (by omega), e 1 (by omega), e 2 (by omega), e 3 (by omega), e 4 (by omega), e 5 (by omega), e 6 (by omega)]
theorem H7_set (h : Nat → Int) (j : Nat) (hj : j < 7) (v : Int) : (H7 h).setIfInBounds j (.int .i64 v) = H7 (fun k => if k = j then v else h k) := by
  obtain rfl | rfl | rfl | rfl | rfl | rfl | rfl := seven j hj
  all_goals simp [H7]
theorem ptrs_at (g k : Nat) (hk : k < 7) : (ptrs g)[k]? = some (.pointer (some ⟨g, k, none⟩)) := by
  obtain rfl | rfl | rfl | rfl | rfl | rfl | rfl := seven k hk
  all_goals rfl

structure Ev where
  tick : Int
  module : Int
  what : Int
  slot : Int
  version : Int
  since : Int
  cand : Int
  wa : Option Addr
  wn : Nat
  wc : Nat
deriving Inhabited
def Ev.cells (e : Ev) : List Value := [.int .i64 e.tick, .int .i64 e.module, .int .i64 e.what, .int .i64 e.slot, .int .i64 e.version, .int .i64 e.since, .int .i64 e.cand, .slice e.wa e.wn e.wc]
def REv (w : World) (cs : List Value) (e : Ev) : Prop := cs = e.cells
theorem lives_ev : Lives REv := by
  intro w w1 cs x h hb
  exact h
/-- How many of the first n events are of kind k + 1, of one of some modules. -/
def hc (l : List Ev) (ms : List Int) : Nat → Nat → Int
  | 0, _ => 0
  | n + 1, k => hc l ms n k + (if (l.getD n default).what = (k : Int) + 1 ∧ (l.getD n default).module ∈ ms then 1 else 0)
theorem hc_range (l : List Ev) (ms : List Int) (n k : Nat) : 0 ≤ hc l ms n k ∧ hc l ms n k ≤ n := by
  induction n with
  | zero => simp [hc]
  | succ n ih =>
    rw [hc]
    split <;> omega
theorem hc_skip (l : List Ev) (ms : List Int) (n : Nat) (h : ¬ (1 ≤ (l.getD n default).what ∧ (l.getD n default).what ≤ 7 ∧ (l.getD n default).module ∈ ms)) : H7 (hc l ms (n + 1)) = H7 (hc l ms n) := by
  refine H7_congr fun k hk => ?_
  rw [hc, if_neg (fun e => h ⟨by omega, by omega, e.2⟩)]
  omega
theorem hc_count (l : List Ev) (ms : List Int) (n j : Nat) (hj : j < 7) (hw : (l.getD n default).what = (j : Int) + 1) (hm : (l.getD n default).module ∈ ms) : (H7 (hc l ms n)).setIfInBounds j (.int .i64 (hc l ms n j + 1)) = H7 (hc l ms (n + 1)) := by
  rw [H7_set _ _ hj]
  refine H7_congr fun k hk => ?_
  rw [hc]
  by_cases e : k = j
  · subst e
    rw [if_pos rfl, if_pos ⟨hw, hm⟩]
  · rw [if_neg e, if_neg (fun h => e (by omega))]
    omega
/-- Two added, up to some kind. -/
def mix (a b : Nat → Int) (n : Nat) : Nat → Int := fun k => if k < n then a k + b k else a k
theorem mix_at (a b : Nat → Int) (n : Nat) : mix a b n n = a n := by unfold mix; rw [if_neg (by omega)]
theorem mix_set (a b : Nat → Int) (n : Nat) (hn : n < 7) : (H7 (mix a b n)).setIfInBounds n (.int .i64 (a n + b n)) = H7 (mix a b (n + 1)) := by
  rw [H7_set _ _ hn]
  refine H7_congr fun k hk => ?_
  unfold mix
  by_cases e : k = n
  · subst e
    rw [if_pos rfl, if_pos (by omega)]
  · rw [if_neg e]
    by_cases e2 : k < n
    · rw [if_pos e2, if_pos (by omega)]
    · rw [if_neg e2, if_neg (by omega)]
theorem mix_zero (a b : Nat → Int) : H7 (mix a b 0) = H7 a := H7_congr fun k hk => by unfold mix; rw [if_neg (by omega)]
theorem mix_end (a b : Nat → Int) : H7 (mix a b 7) = H7 (fun k => a k + b k) := H7_congr fun k hk => by unfold mix; rw [if_pos hk]
end Go.Proofs.Ytfmepbpipknblaa.He
