/- The plain law of BudgetChecks. Helper text. -/
import Derived.Test.YtfmepbpipknblaaBuPure
import Derived.Test.YtfmepbpipknblaaPBux8
namespace Go.Proofs.Ytfmepbpipknblaa.PBu
open Go.RowKit Go.Proofs.YtfmepbpipknblaaW.PrintWords Go.Proofs.YtfmepbpipknblaaW.PrintLast Go.Proofs.YtfmepbpipknblaaW.PrintMore
set_option linter.unusedVariables false
set_option linter.unusedSimpArgs false

theorem same_loop (x6 : Int) (L : List S37) (hn : L.length ≤ 1000) (y0 y1 : Int) (y2 : Bool) (y3 y4 : Int) (y5 : List Int) (y6 : List S40) (z0 z1 : Int) (z2 : Bool) (z3 z4 : Int) (z5 : List Int) (z6 : List S40)
    (h0 : x6 = 0 → z0 = y0 ∧ z5.length = y5.length) (h1 : x6 ≠ 0 → z0 = 0) : ∀ (d i k : Nat), i + d = L.length → busbarlaw21_BudgetChecks.l0 (k + d + 1) x6 L L (i : Int) y0 y1 y2 y3 y4 y5 y6 z0 z1 z2 z3 z4 z5 z6 = busbarlaw21_BudgetChecks.j3 k false := by
  intro d
  induction d with
  | zero =>
    intro i k hi
    rw [Nat.add_zero]
    simp only [busbarlaw21_BudgetChecks.l0]
    rw [if_neg (by omega)]
    by_cases hx : x6 = 0
    · obtain ⟨e0, e1⟩ := h0 hx
      rw [if_pos hx, if_pos e0]
      simp [e1]
    · rw [if_neg hx, if_pos (h1 hx)]
  | succ d ih =>
    intro i k hi
    have e : k + (d + 1) + 1 = (k + d + 1) + 1 := by omega
    rw [e]
    simp only [busbarlaw21_BudgetChecks.l0]
    rw [if_pos (by omega), if_pos (by omega), if_pos (by omega), if_neg (by simp), wrap_up i L.length (by omega) hn]
    exact ih (i + 1) k (by omega)
theorem checks_pure (a0_0 : Int) (a0_1 : Int) (a0_2 : Bool) (a0_3 : Int) (a0_4 : Int) (l0_5 : List Int) (l0_6 : List S40) (a1 : Int) (hw : ∀ s ∈ l0_6, (Lit.int .i64 s.f0).wf = true) : ∃ k, busbarlaw21_BudgetChecks.f k a0_0 a0_1 a0_2 a0_3 a0_4 l0_5 l0_6 a1 = some true := by
  refine ⟨10000, ?_⟩
  unfold busbarlaw21_BudgetChecks.f busbarlaw21_few.f
  by_cases h60 : (l0_6.length : Int) ≤ 60
  · rw [if_pos h60, Option.bind_some]
    by_cases h400 : (l0_5.length : Int) ≤ 400
    · have hl : l0_6.length ≤ 1000 := by omega
      obtain ⟨b, hb, hb02⟩ := right_some a0_0 a0_1 a0_2 a0_3 a0_4 l0_5 a1
      have hok := okL_of hl hw
      have hfl := fits_len a1 l0_6 []
      simp only [List.length_nil, Nat.zero_add] at hfl
      rw [if_pos (by simpa using h400), own_is _ hl _ (by omega), Option.bind_some, right_at hb 10000 (by omega), Option.bind_some, check_is _ _ hl _ (by omega), Option.bind_some]
      have hone : ∀ k, 10 ≤ k → busbarlaw21_BudgetChecks.j3 (k + 1) false = some true := fun k hk => by
        simp only [busbarlaw21_BudgetChecks.j3]
        rw [if_neg (by decide), one_at k hk]
        rfl
      have hj1 : ∀ (x6 : Int) (L : List S37) (k : Nat), L.length ≤ 1000 → 3000 ≤ k → ∀ (z0 z1 : Int) (z2 : Bool) (z3 z4 : Int) (z5 : List Int) (z6 : List S40), (x6 = 0 → z0 = a0_0 ∧ z5.length = l0_5.length) → (x6 ≠ 0 → z0 = 0) →
          busbarlaw21_BudgetChecks.j1 k x6 L L ((L.length : Int) != (L.length : Int)) a0_0 a0_1 a0_2 a0_3 a0_4 l0_5 l0_6 z0 z1 z2 z3 z4 z5 z6 = some true := fun x6 L k hL hk z0 z1 z2 z3 z4 z5 z6 h0 h1 => by
        obtain ⟨q, rfl⟩ : ∃ q, k = (q + 1) + L.length + 1 + 1 := ⟨k - L.length - 3, by omega⟩
        simp only [busbarlaw21_BudgetChecks.j1]
        rw [if_neg (by simp)]
        have := same_loop x6 L hL a0_0 a0_1 a0_2 a0_3 a0_4 l0_5 l0_6 z0 z1 z2 z3 z4 z5 z6 h0 h1 L.length 0 (q + 1) (by omega)
        rw [Int.natCast_zero] at this
        rw [this]
        exact hone q (by omega)
      have hlen : (own (fits a1 [] l0_6)).length ≤ 1000 := by rw [own_len]; omega
      by_cases hb0 : b = 0
      · rw [if_pos hb0]
        simp only [busbarlaw21_BudgetChecks.j0]
        have hF : budget_Course_Fit.f a0_0 a0_1 a0_2 a0_3 a0_4 l0_5 l0_6 a1 = some (a0_0, a0_1, a0_2, a0_3, a0_4, l0_5, fits a1 [] l0_6) := by
          unfold budget_Course_Fit.f
          rw [hb, Option.bind_some, if_pos ⟨hok, by omega⟩, if_pos hb0]
        have hC : budget_Course_Check.f a0_0 a0_1 a0_2 a0_3 a0_4 l0_5 l0_6 a1 = some (chk a1 [] l0_6) := by
          unfold budget_Course_Check.f
          rw [hb, Option.bind_some, if_pos hb0, if_pos hok]
        rw [hF, Option.bind_some, fit_is _ _ hl _ (by omega), Option.bind_some]
        dsimp only
        rw [own_is _ (by omega) _ (by omega), Option.bind_some, hC, Option.bind_some, if_pos rfl]
        exact hj1 b _ _ hlen (by omega) _ _ _ _ _ _ _ (fun _ => ⟨rfl, rfl⟩) (fun h => absurd hb0 h)
      · rw [if_neg hb0]
        simp only [busbarlaw21_BudgetChecks.j0]
        have hF : budget_Course_Fit.f a0_0 a0_1 a0_2 a0_3 a0_4 l0_5 l0_6 a1 = some (0, 0, false, 0, 0, [], fits a1 [] l0_6) := by
          unfold budget_Course_Fit.f
          rw [hb, Option.bind_some, if_pos ⟨hok, by omega⟩, if_neg hb0]
        have hC : budget_Course_Check.f a0_0 a0_1 a0_2 a0_3 a0_4 l0_5 l0_6 a1 = some b := by
          unfold budget_Course_Check.f
          rw [hb, Option.bind_some, if_neg hb0]
        rw [hF, Option.bind_some, fit_is _ _ hl _ (by omega), Option.bind_some]
        dsimp only
        rw [own_is _ (by omega) _ (by omega), Option.bind_some, hC, Option.bind_some, if_pos rfl]
        exact hj1 b _ _ hlen (by omega) _ _ _ _ _ _ _ (fun h => absurd h hb0) (fun _ => rfl)
    · rw [if_neg (by simpa using h400)]
  · rw [if_neg h60, Option.bind_some, if_neg (by decide)]
end Go.Proofs.Ytfmepbpipknblaa.PBu
