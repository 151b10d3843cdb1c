/- The plain law of BudgetFits. Helper text. -/
import Derived.Test.YtfmepbpipknblaaBuPure
import Derived.Test.YtfmepbpipknblaaPBux11
namespace Go.Proofs.Ytfmepbpipknblaa.PBu
open Go.RowKit Go.Proofs.YtfmepbpipknblaaW.PrintWords Go.Proofs.YtfmepbpipknblaaW.PrintLast Go.Proofs.YtfmepbpipknblaaW.PrintMore
set_option linter.unusedVariables false
set_option linter.unusedSimpArgs false

theorem fits_loop (m : Int) (c0 c1 : Int) (c2 : Bool) (c3 c4 : Int) (c5 : List Int) (c6 : List S40) (x0 x1 : Int) (x2 : Bool) (x3 x4 : Int) (x5 : List Int) (F : List S40) (hn : F.length ≤ 1000) : ∀ (d i k : Nat), i + d = F.length →
    busbarlaw21_BudgetFits.l0 (k + d + 1) m (i : Int) c0 c1 c2 c3 c4 c5 c6 x0 x1 x2 x3 x4 x5 F x0 x1 x2 x3 x4 x5 F = busbarlaw21_BudgetFits.l0 (k + 1) m (F.length : Int) c0 c1 c2 c3 c4 c5 c6 x0 x1 x2 x3 x4 x5 F x0 x1 x2 x3 x4 x5 F := by
  intro d
  induction d with
  | zero =>
    intro i k hi
    obtain rfl : i = F.length := by omega
    rfl
  | succ d ih =>
    intro i k hi
    rw [← ih (i + 1) k (by omega)]
    have e : k + (d + 1) + 1 = (k + d + 1) + 1 := by omega
    rw [e]
    obtain ⟨n, hN⟩ : ∃ n, n = k + d + 1 := ⟨_, rfl⟩
    rw [← hN]
    simp only [busbarlaw21_BudgetFits.l0]
    rw [if_pos (by omega), if_pos (by omega), if_pos (by omega), if_neg (by simp), wrap_up i F.length (by omega) hn]
theorem fits_pure (a0_0 : Int) (a0_1 : Int) (a0_2 : Bool) (a0_3 : Int) (a0_4 : Int) (l0_5 : List Int) (l0_6 : List S40) (a1 : Int) (hw : ∀ s ∈ l0_6, (Lit.int .i64 s.f0).wf = true) : ∃ k, busbarlaw21_BudgetFits.f k a0_0 a0_1 a0_2 a0_3 a0_4 l0_5 l0_6 a1 = some true := by
  refine ⟨10000, ?_⟩
  unfold busbarlaw21_BudgetFits.f busbarlaw21_few.f
  by_cases h60 : (l0_6.length : Int) ≤ 60
  · rw [if_pos h60, Option.bind_some]
    by_cases h400 : (l0_5.length : Int) ≤ 400
    · rw [if_pos (by simpa using h400)]
      have hok := okL_of (by omega) hw
      obtain ⟨b, hb, hb02⟩ := right_some a0_0 a0_1 a0_2 a0_3 a0_4 l0_5 a1
      obtain ⟨F, hF⟩ : ∃ F, F = fits a1 [] l0_6 := ⟨_, rfl⟩
      have hF0 : chk a1 [] F = 0 := by rw [hF]; exact chk_fits a1 l0_6 [] rfl
      have hFF : fits a1 [] F = F := (fits_all a1 F [] hF0).trans (List.nil_append F)
      have hFl : F.length ≤ l0_6.length := by
        have := fits_len a1 l0_6 []
        rw [hF]
        simpa using this
      have hokF : okL F = true := okL_of (by omega) (fun s hs => hw s (by
        rw [hF] at hs
        rcases fits_mem a1 l0_6 [] s hs with q | q
        · cases q
        · exact q))
      obtain ⟨x0, x1, x2, x3, x4, x5, hFit, hR, hx5⟩ : ∃ x0 x1 x2 x3 x4 x5, budget_Course_Fit.f a0_0 a0_1 a0_2 a0_3 a0_4 l0_5 l0_6 a1 = some (x0, x1, x2, x3, x4, x5, F) ∧ fault_Fault_Right.f 9 x0 x1 x2 x3 x4 x5 a1 = some 0 ∧ x5.length ≤ 400 := by
        by_cases hb0 : b = 0
        · refine ⟨a0_0, a0_1, a0_2, a0_3, a0_4, l0_5, ?_, by rw [hb, hb0], by omega⟩
          unfold budget_Course_Fit.f
          rw [hb, Option.bind_some, if_pos ⟨hok, by omega⟩, if_pos hb0, ← hF]
        · refine ⟨0, 0, false, 0, 0, [], ?_, right_none a1, by simp⟩
          unfold budget_Course_Fit.f
          rw [hb, Option.bind_some, if_pos ⟨hok, by omega⟩, if_neg hb0, ← hF]
      have hFit2 : budget_Course_Fit.f x0 x1 x2 x3 x4 x5 F a1 = some (x0, x1, x2, x3, x4, x5, F) := by
        unfold budget_Course_Fit.f
        rw [hR, Option.bind_some, if_pos ⟨hokF, by omega⟩, if_pos rfl, hFF]
      have hChk : budget_Course_Check.f x0 x1 x2 x3 x4 x5 F a1 = some 0 := by
        unfold budget_Course_Check.f
        rw [hR, Option.bind_some, if_pos rfl, if_pos hokF, hF0]
      obtain ⟨t, ht, ht0⟩ : ∃ t, budget_Course_Check.f a0_0 a0_1 a0_2 a0_3 a0_4 l0_5 l0_6 a1 = some t ∧ (t = 0 → F.length = l0_6.length) := by
        unfold budget_Course_Check.f
        rw [hb, Option.bind_some]
        by_cases hb0 : b = 0
        · refine ⟨chk a1 [] l0_6, by rw [if_pos hb0, if_pos hok], fun h => ?_⟩
          rw [hF, fits_all a1 l0_6 [] h, List.nil_append]
        · exact ⟨b, by rw [if_neg hb0], fun h => absurd h hb0⟩
      have hCl : budget_Course_Clone.f a0_0 a0_1 a0_2 a0_3 a0_4 l0_5 l0_6 = some (a0_0, a0_1, a0_2, a0_3, a0_4, l0_5, l0_6) := by
        unfold budget_Course_Clone.f fault_Fault_Clone.f budget_Slip.f
        rw [if_pos (by omega), Option.bind_some, if_pos (by omega), Option.bind_some]
      rw [hFit, Option.bind_some]
      dsimp only
      rw [hFit2, Option.bind_some]
      dsimp only
      rw [hChk, Option.bind_some, if_pos rfl, if_pos rfl, decide_eq_false (by omega)]
      obtain ⟨q, hq⟩ : ∃ q, 10000 = ((q + 11) + 1 + F.length + 1) + 1 := ⟨9986 - F.length, by omega⟩
      rw [hq]
      simp only [busbarlaw21_BudgetFits.j0]
      rw [if_neg (by decide)]
      have hl := fits_loop a1 a0_0 a0_1 a0_2 a0_3 a0_4 l0_5 l0_6 x0 x1 x2 x3 x4 x5 F (by omega) F.length 0 (q + 11 + 1) (by omega)
      rw [Int.natCast_zero] at hl
      rw [hl]
      have h3 : busbarlaw21_BudgetFits.j3 (q + 11) a1 a0_0 a0_1 a0_2 a0_3 a0_4 l0_5 l0_6 x0 x1 x2 x3 x4 x5 F = some true := by
        simp only [busbarlaw21_BudgetFits.j3]
        rw [ht, Option.bind_some, one_at (q + 10) (by omega), Option.bind_some]
        by_cases t0 : t = 0
        · rw [if_pos t0, if_pos (by rw [ht0 t0])]
        · rw [if_neg t0]
      generalize hG : busbarlaw21_BudgetFits.j3 (q + 11) = G at h3
      simp only [busbarlaw21_BudgetFits.l0]
      rw [if_neg (by omega), hCl, Option.bind_some]
      dsimp only
      rw [if_pos rfl, ht, Option.bind_some, Option.bind_some, bne_self_eq_false]
      simp only [busbarlaw21_BudgetFits.j2]
      rw [if_neg (by decide), hG]
      cases l0_6 with
      | nil => rw [if_neg (by simp)]; exact h3
      | cons s r =>
        have r0 : rd_T40 (s :: r) 0 = s := rfl
        rw [if_pos (by simp), if_pos (by simp), Option.bind_some, if_pos (by simp)]
        have r1 : ∀ v : S40, rd_T40 ((s :: r).set (0 : Int).toNat v) 0 = v := fun v => rfl
        rw [r1, r0]
        dsimp only
        rw [beq_eq_false_iff_ne.mpr (fun e => xor_ne s.f0 e.symm), Bool.false_and, if_neg (by decide)]
        exact h3
    · rw [if_neg (by simpa using h400)]
  · rw [if_neg h60, Option.bind_some, if_neg (by decide)]
end Go.Proofs.Ytfmepbpipknblaa.PBu
