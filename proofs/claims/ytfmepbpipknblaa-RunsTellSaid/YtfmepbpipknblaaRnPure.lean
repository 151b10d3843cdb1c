/- The runs of four lines in plain Lean: the state, one tick, the third greatest run; that it is at least n just where three lines are. Helper text; no Go. -/
namespace Go.Proofs.Ytfmepbpipknblaa.Rn

/-- The second least of four. -/
def third (a b c d : Int) : Int := max (max (min a (min b c)) (min a (min b d))) (max (min a (min c d)) (min b (min c d)))

theorem third_form (a b c d : Int) : ∃ x0 x1 x2 x3, ([a, b, c, d].mergeSort fun x y => decide (x ≤ y)) = [x0, x1, x2, x3] ∧ x0 ≤ x1 ∧ x1 ≤ x2 ∧ x2 ≤ x3 ∧ (∀ p : Int → Bool, [x0, x1, x2, x3].countP p = [a, b, c, d].countP p) := by
  have hl : ([a, b, c, d].mergeSort fun x y => decide (x ≤ y)).length = 4 := by rw [List.length_mergeSort]; rfl
  have hs := List.pairwise_mergeSort (le := fun x y : Int => decide (x ≤ y)) (by intro a b c h1 h2; simp at *; omega) (by intro a b; simp; omega) [a, b, c, d]
  have hp := List.mergeSort_perm [a, b, c, d] (fun x y : Int => decide (x ≤ y))
  generalize ([a, b, c, d].mergeSort fun x y => decide (x ≤ y)) = l at *
  match l, hl with
  | [x0, x1, x2, x3], _ =>
    simp only [List.pairwise_cons, List.mem_cons, List.not_mem_nil, or_false, forall_eq_or_imp, forall_eq, decide_eq_true_eq] at hs
    exact ⟨x0, x1, x2, x3, rfl, hs.1.1, hs.2.1.1, hs.2.2.1, fun p => hp.countP_eq p⟩


theorem third_ge (a b c d n : Int) : n ≤ third a b c d ↔ (n ≤ a ∧ n ≤ b ∧ n ≤ c) ∨ (n ≤ a ∧ n ≤ b ∧ n ≤ d) ∨ (n ≤ a ∧ n ≤ c ∧ n ≤ d) ∨ (n ≤ b ∧ n ≤ c ∧ n ≤ d) := by
  unfold third
  omega
theorem third_sort (a b c d x0 x1 x2 x3 : Int) (h0 : x0 ≤ x1) (h1 : x1 ≤ x2) (h2 : x2 ≤ x3) (hc : ∀ p : Int → Bool, [x0, x1, x2, x3].countP p = [a, b, c, d].countP p) : x1 = third a b c d := by
  have g : ∀ n : Int, n ≤ x1 ↔ (n ≤ a ∧ n ≤ b ∧ n ≤ c) ∨ (n ≤ a ∧ n ≤ b ∧ n ≤ d) ∨ (n ≤ a ∧ n ≤ c ∧ n ≤ d) ∨ (n ≤ b ∧ n ≤ c ∧ n ≤ d) := by
    intro n
    have hc := hc (fun x => decide (n ≤ x))
    simp only [List.countP_cons, List.countP_nil, decide_eq_true_eq] at hc
    constructor <;> intro h <;> (repeat' (split at hc)) <;> omega
  have g1 := (third_ge a b c d x1).2 ((g x1).1 (Int.le_refl _))
  have g2 := (g (third a b c d)).2 ((third_ge a b c d _).1 (Int.le_refl _))
  omega

theorem third_range (a b c d : Int) (lo hi : Int) (ha : lo ≤ a ∧ a ≤ hi) (hb : lo ≤ b ∧ b ≤ hi) (hc : lo ≤ c ∧ c ≤ hi) (hd : lo ≤ d ∧ d ≤ hi) : lo ≤ third a b c d ∧ third a b c d ≤ hi := by
  unfold third
  omega
end Go.Proofs.Ytfmepbpipknblaa.Rn
