/- What rose and fell, over a Runs that was made. Helper text. -/
import Derived.Test.YtfmepbpipknblaaRnSee
namespace Go.Proofs.Ytfmepbpipknblaa.Rn
open Go.RowKit Go.Proofs.Ytfmepbpipknblaa.Kx
set_option linter.unusedVariables false
set_option linter.unusedSimpArgs false

/-- 1, if a number is 0. -/
def isz (n : Int) : Int := if n = 0 then 1 else 0
/-- What 'when' tells. -/
def whenV (y : Int) (low : Bool) (n : Int) : Int := if (y == 0) = low then n else 0
def St.rose (s : St) : Bool := !(s.third == 0) && s.was == 0
def St.fell (s : St) : Int := if s.third = 0 then s.was else 0

theorem rose_in (c g : Nat) (s : St) (w : World) (hc : w.cell? ⟨c, 0, none⟩ = some (.pointer (some ⟨g, 0, none⟩))) (h : At w g s) :
    Calls Try.prog 110 #[.pointer (some ⟨c, 0, none⟩)] w fun e w' => e = .returned (.int .i64 (isz s.was)) ∧ w = w' := by
  have h5 := h.cell.2.2.2.2.2.1
  clear h
  by_cases hz : s.was = 0
  · have hf : isz s.was = 1 := by unfold isz; rw [if_pos hz]
    rw [hf]
    clear hf
    go_enter Try.func110, Try.ntmps110
    go_wp2
    all_goals (go_ret; exact ⟨rfl, rfl⟩)
  · have hf : isz s.was = 0 := by unfold isz; rw [if_neg hz]
    rw [hf]
    clear hf
    go_enter Try.func110, Try.ntmps110
    go_wp2
    all_goals (go_ret; exact ⟨rfl, rfl⟩)
theorem fell_in (c g : Nat) (s : St) (w : World) (hc : w.cell? ⟨c, 0, none⟩ = some (.pointer (some ⟨g, 0, none⟩))) (h : At w g s) :
    Calls Try.prog 111 #[.pointer (some ⟨c, 0, none⟩)] w fun e w' => e = .returned (.int .i64 s.was) ∧ w = w' := by
  have h5 := h.cell.2.2.2.2.2.1
  clear h
  go_enter Try.func111, Try.ntmps111
  go_wp2
  go_ret
  exact ⟨rfl, rfl⟩

/-- 'when' at a function that only reads. -/
theorem when_rose (g c : Nat) (s : St) (low : Bool) (n : Int) (w : World) (h : At w g s) (hc : w.cell? ⟨c, 0, none⟩ = some (.pointer (some ⟨g, 0, none⟩)))
    (hF : ∀ W : World, W.cell? ⟨c, 0, none⟩ = some (.pointer (some ⟨g, 0, none⟩)) → At W g s → Calls Try.prog 110 #[.pointer (some ⟨c, 0, none⟩)] W fun e w' => e = .returned (.int .i64 n) ∧ W = w') :
    Calls Try.prog 109 #[.pointer (some ⟨g, 0, none⟩), .bool low, .func (.func 110) #[] #[.pointer (some ⟨c, 0, none⟩)]] w fun e w' =>
      e = .returned (.int .i64 (whenV s.third low n)) ∧ Below w.heap.size w w' := by
  have HOF : Hid (∀ W : World, At W g s → Calls Try.prog 107 #[.pointer (some ⟨g, 0, none⟩)] W fun e w' => e = .returned (.int .i64 s.third) ∧ Below W.heap.size W w') := fun W hW => of_any g s W hW
  have H := hid h
  have HF := hid hF
  have HC := hid hc
  clear h hF hc
  generalize s.third = y at *
  have hy : (y == 0) = true ∨ (y == 0) = false := by cases (y == 0) <;> simp
  rcases hy with hy | hy <;> cases low
  · obtain rfl : y = 0 := by simpa using hy
    clear hy
    rw [show whenV 0 false n = 0 from rfl]
    go_enter Try.func109, Try.ntmps109
    go_wp2_with (first | (go_at_call 106; refine (none_made g s _ H.out).mono ?_; rintro e w' ⟨rfl, rfl⟩))
    refine (HOF.out _ H.out).mono ?_
    rintro e w1 ⟨rfl, hb⟩
    have HB := hid hb
    clear hb
    go_wp2_with fail
    go_ret
    exact ⟨rfl, HB.out⟩
  · obtain rfl : y = 0 := by simpa using hy
    clear hy
    rw [show whenV 0 true n = n from rfl]
    go_enter Try.func109, Try.ntmps109
    go_wp2_with (first | (go_at_call 106; refine (none_made g s _ H.out).mono ?_; rintro e w' ⟨rfl, rfl⟩))
    refine (HOF.out _ H.out).mono ?_
    rintro e w1 ⟨rfl, hb⟩
    have HB := hid hb
    clear hb
    go_wp2_with fail
    refine (HF.out _ ((HB.out.cell (World.block_lt_of_cell? w _ HC.out)).trans HC.out) (below_block HB.out H.out (lt_of_block H.out))).mono ?_
    rintro e w2 ⟨rfl, rfl⟩
    go_wp2_with fail
    go_ret
    exact ⟨rfl, HB.out⟩
  · rw [show whenV y false n = n from by unfold whenV; rw [hy]; rfl]
    go_enter Try.func109, Try.ntmps109
    go_wp2_with (first | (go_at_call 106; refine (none_made g s _ H.out).mono ?_; rintro e w' ⟨rfl, rfl⟩))
    refine (HOF.out _ H.out).mono ?_
    rintro e w1 ⟨rfl, hb⟩
    have HB := hid hb
    clear hb
    go_wp2_with fail
    refine (HF.out _ ((HB.out.cell (World.block_lt_of_cell? w _ HC.out)).trans HC.out) (below_block HB.out H.out (lt_of_block H.out))).mono ?_
    rintro e w2 ⟨rfl, rfl⟩
    go_wp2_with fail
    go_ret
    exact ⟨rfl, HB.out⟩
  · rw [show whenV y true n = 0 from by unfold whenV; rw [hy]; rfl]
    go_enter Try.func109, Try.ntmps109
    go_wp2_with (first | (go_at_call 106; refine (none_made g s _ H.out).mono ?_; rintro e w' ⟨rfl, rfl⟩))
    refine (HOF.out _ H.out).mono ?_
    rintro e w1 ⟨rfl, hb⟩
    have HB := hid hb
    clear hb
    go_wp2_with fail
    go_ret
    exact ⟨rfl, HB.out⟩

/-- 'when' at a function that only reads. -/
theorem when_fell (g c : Nat) (s : St) (low : Bool) (n : Int) (w : World) (h : At w g s) (hc : w.cell? ⟨c, 0, none⟩ = some (.pointer (some ⟨g, 0, none⟩)))
    (hF : ∀ W : World, W.cell? ⟨c, 0, none⟩ = some (.pointer (some ⟨g, 0, none⟩)) → At W g s → Calls Try.prog 111 #[.pointer (some ⟨c, 0, none⟩)] W fun e w' => e = .returned (.int .i64 n) ∧ W = w') :
    Calls Try.prog 109 #[.pointer (some ⟨g, 0, none⟩), .bool low, .func (.func 111) #[] #[.pointer (some ⟨c, 0, none⟩)]] w fun e w' =>
      e = .returned (.int .i64 (whenV s.third low n)) ∧ Below w.heap.size w w' := by
  have HOF : Hid (∀ W : World, At W g s → Calls Try.prog 107 #[.pointer (some ⟨g, 0, none⟩)] W fun e w' => e = .returned (.int .i64 s.third) ∧ Below W.heap.size W w') := fun W hW => of_any g s W hW
  have H := hid h
  have HF := hid hF
  have HC := hid hc
  clear h hF hc
  generalize s.third = y at *
  have hy : (y == 0) = true ∨ (y == 0) = false := by cases (y == 0) <;> simp
  rcases hy with hy | hy <;> cases low
  · obtain rfl : y = 0 := by simpa using hy
    clear hy
    rw [show whenV 0 false n = 0 from rfl]
    go_enter Try.func109, Try.ntmps109
    go_wp2_with (first | (go_at_call 106; refine (none_made g s _ H.out).mono ?_; rintro e w' ⟨rfl, rfl⟩))
    refine (HOF.out _ H.out).mono ?_
    rintro e w1 ⟨rfl, hb⟩
    have HB := hid hb
    clear hb
    go_wp2_with fail
    go_ret
    exact ⟨rfl, HB.out⟩
  · obtain rfl : y = 0 := by simpa using hy
    clear hy
    rw [show whenV 0 true n = n from rfl]
    go_enter Try.func109, Try.ntmps109
    go_wp2_with (first | (go_at_call 106; refine (none_made g s _ H.out).mono ?_; rintro e w' ⟨rfl, rfl⟩))
    refine (HOF.out _ H.out).mono ?_
    rintro e w1 ⟨rfl, hb⟩
    have HB := hid hb
    clear hb
    go_wp2_with fail
    refine (HF.out _ ((HB.out.cell (World.block_lt_of_cell? w _ HC.out)).trans HC.out) (below_block HB.out H.out (lt_of_block H.out))).mono ?_
    rintro e w2 ⟨rfl, rfl⟩
    go_wp2_with fail
    go_ret
    exact ⟨rfl, HB.out⟩
  · rw [show whenV y false n = n from by unfold whenV; rw [hy]; rfl]
    go_enter Try.func109, Try.ntmps109
    go_wp2_with (first | (go_at_call 106; refine (none_made g s _ H.out).mono ?_; rintro e w' ⟨rfl, rfl⟩))
    refine (HOF.out _ H.out).mono ?_
    rintro e w1 ⟨rfl, hb⟩
    have HB := hid hb
    clear hb
    go_wp2_with fail
    refine (HF.out _ ((HB.out.cell (World.block_lt_of_cell? w _ HC.out)).trans HC.out) (below_block HB.out H.out (lt_of_block H.out))).mono ?_
    rintro e w2 ⟨rfl, rfl⟩
    go_wp2_with fail
    go_ret
    exact ⟨rfl, HB.out⟩
  · rw [show whenV y true n = 0 from by unfold whenV; rw [hy]; rfl]
    go_enter Try.func109, Try.ntmps109
    go_wp2_with (first | (go_at_call 106; refine (none_made g s _ H.out).mono ?_; rintro e w' ⟨rfl, rfl⟩))
    refine (HOF.out _ H.out).mono ?_
    rintro e w1 ⟨rfl, hb⟩
    have HB := hid hb
    clear hb
    go_wp2_with fail
    go_ret
    exact ⟨rfl, HB.out⟩

theorem rose_any (g : Nat) (s : St) (w : World) (h : At w g s) :
    Calls Try.prog 61 #[.pointer (some ⟨g, 0, none⟩)] w fun e w' => e = .returned (.bool s.rose) ∧ Below w.heap.size w w' := by
  have hv : (whenV s.third false (isz s.was) == 1) = s.rose := by
    unfold whenV isz St.rose
    by_cases h1 : s.third = 0 <;> by_cases h2 : s.was = 0 <;> simp [h1, h2]
  have H := hid h
  have HV := hid hv
  clear h hv
  go_enter Try.func61, Try.ntmps61
  go_wp2_with fail
  refine (when_rose g w.heap.size s false (isz s.was) _ ?_ ?_ (fun W hc hW => rose_in _ g s W hc hW)).mono ?_
  · exact (Below.heap_alloc _ _ _ (lt_of_block H.out)).trans H.out
  · exact cell_in (heap_alloc_new _ _) 0
  rintro e w1 ⟨rfl, hb⟩
  have HB := hid hb
  clear hb
  go_wp2_with fail
  go_ret
  exact ⟨by rw [← HV.out]; rfl, below_trans' ((Below.refl _ _).alloc (Nat.le_refl _) _) HB.out (by simp)⟩
theorem fell_any (g : Nat) (s : St) (w : World) (h : At w g s) :
    Calls Try.prog 62 #[.pointer (some ⟨g, 0, none⟩)] w fun e w' => e = .returned (.int .i64 s.fell) ∧ Below w.heap.size w w' := by
  have hv : whenV s.third true s.was = s.fell := by
    unfold whenV St.fell
    by_cases h1 : s.third = 0 <;> simp [h1]
  have H := hid h
  have HV := hid hv
  clear h hv
  go_enter Try.func62, Try.ntmps62
  go_wp2_with fail
  refine (when_fell g w.heap.size s true s.was _ ?_ ?_ (fun W hc hW => fell_in _ g s W hc hW)).mono ?_
  · exact (Below.heap_alloc _ _ _ (lt_of_block H.out)).trans H.out
  · exact cell_in (heap_alloc_new _ _) 0
  rintro e w1 ⟨rfl, hb⟩
  have HB := hid hb
  clear hb
  go_wp2_with fail
  go_ret
  exact ⟨by rw [← HV.out]; rfl, below_trans' ((Below.refl _ _).alloc (Nat.le_refl _) _) HB.out (by simp)⟩
end Go.Proofs.Ytfmepbpipknblaa.Rn
