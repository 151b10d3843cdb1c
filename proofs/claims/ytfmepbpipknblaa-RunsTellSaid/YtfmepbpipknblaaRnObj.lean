/- What each method of runs does to a Runs that was made: the run of all, a tick, what rose, what fell, each line's run, the longest. Helper text. -/
import Derived.Test.YtfmepbpipknblaaRnSort
import Derived.Deep.RegionWith
namespace Go.Proofs.Ytfmepbpipknblaa.Rn
open Go.RowKit Go.Proofs.Ytfmepbpipknblaa.Kx
set_option linter.unusedVariables false
set_option linter.unusedSimpArgs false

def St.third (s : St) : Int := Rn.third s.a s.b s.c s.d

set_option maxHeartbeats 400000 in
theorem of_any (g : Nat) (s : St) (w : World) (h : At w g s) : Calls Try.prog 107 #[.pointer (some ⟨g, 0, none⟩)] w fun e w' =>
    e = .returned (.int .i64 s.third) ∧ Below w.heap.size w w' := by
  obtain ⟨h0, h1, h2, h3, h4, h5, h6⟩ := h.cell
  have hlt := lt_of_block h
  clear h
  go_enter Try.func107, Try.ntmps107
  go_wp2_with fail
  refine (sort_four w.heap.size 56 s.a s.b s.c s.d _ (heap_alloc_new _ _)).mono ?_
  rintro e w' ⟨rfl, hg, hc⟩
  have HG := hid hg
  clear hg
  go_wp2
  go_ret
  exact ⟨rfl, ((Below.refl _ _).alloc (Nat.le_refl _) _).trans (grown_below HG.out (Nat.le_refl _) (by simp))⟩

theorem run_any (g : Nat) (s : St) (w : World) (h : At w g s) : Calls Try.prog 60 #[.pointer (some ⟨g, 0, none⟩)] w fun e w' =>
    e = .returned (.int .i64 s.third) ∧ Below w.heap.size w w' := by
  go_enter Try.func60, Try.ntmps60
  go_wp2_with (first | (go_at_call 106; refine (none_made g s _ h).mono ?_; rintro e w' ⟨rfl, rfl⟩) | (go_at_call 107; refine (of_any g s _ h).mono ?_; rintro e w' ⟨rfl, hb⟩))
  go_ret
  exact ⟨rfl, by assumption⟩

theorem of_line (g : Nat) (s : St) (n : Nat) (hn : n < 4) (w : World) (h : At w g s) : Calls Try.prog 66 #[.pointer (some ⟨g, 0, none⟩), .int .i64 n] w fun e w' =>
    e = .returned (.int .i64 (if n = 0 then s.a else if n = 1 then s.b else if n = 2 then s.c else s.d)) ∧ Below w.heap.size w w' := by
  obtain ⟨h0, h1, h2, h3, h4, h5, h6⟩ := h.cell
  have H := hid h
  clear h
  obtain rfl | rfl | rfl | rfl : n = 0 ∨ n = 1 ∨ n = 2 ∨ n = 3 := by omega
  all_goals
    go_enter Try.func66, Try.ntmps66
    go_wp2_with (go_at_call 106; refine (none_made g s _ H.out).mono ?_; rintro e w' ⟨rfl, rfl⟩)
    go_ret
    exact ⟨rfl, Below.refl _ _⟩
theorem of_out (g : Nat) (s : St) (n : Int) (hn : n < 0 ∨ 3 < n) (w : World) (h : At w g s) : Calls Try.prog 66 #[.pointer (some ⟨g, 0, none⟩), .int .i64 n] w fun e w' =>
    e = .returned (.int .i64 0) ∧ Below w.heap.size w w' := by
  have H := hid h
  clear h
  rcases hn with hn | hn
  · go_enter Try.func66, Try.ntmps66
    go_wp2_with (go_at_call 106; refine (none_made g s _ H.out).mono ?_; rintro e w' ⟨rfl, rfl⟩)
    go_ret
    exact ⟨rfl, Below.refl _ _⟩
  · have hp : ¬ n < 0 := by omega
    go_enter Try.func66, Try.ntmps66
    go_wp2_with (go_at_call 106; refine (none_made g s _ H.out).mono ?_; rintro e w' ⟨rfl, rfl⟩)
    go_ret
    exact ⟨rfl, Below.refl _ _⟩

theorem since_any (g : Nat) (s : St) (w : World) (h : At w g s) : Calls Try.prog 59 #[.pointer (some ⟨g, 0, none⟩)] w fun e w' =>
    e = .returned (.int .i64 s.since) ∧ w.grownBy w' (some g) ∧ At w' g { s with since := 0 } := by
  obtain ⟨h0, h1, h2, h3, h4, h5, h6⟩ := h.cell
  have hf := h.free 6
  have H := hid h
  clear h
  go_enter Try.func59, Try.ntmps59
  go_wp2_with (go_at_call 106; refine (none_made g s _ H.out).mono ?_; rintro e w' ⟨rfl, rfl⟩)
  go_ret
  exact ⟨rfl, grown_set _ _ _ _, by have := set_in H.out 6 (.int .i64 0); exact this⟩
end Go.Proofs.Ytfmepbpipknblaa.Rn
