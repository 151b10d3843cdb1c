/- AuditNames: its walk. Helper text. -/
import Derived.Test.YtekbaconbemgpaaAuOne
namespace Go.Proofs.Ytekbaconbemgpaa.PWe
open Go.RowKit Go.Proofs.Ytekbaconbemgpaa.Kx Go.Proofs.YtekbaconbemgpaaW.PrintWords Go.Proofs.YtekbaconbemgpaaW.PrintLast Go.Proofs.YtekbaconbemgpaaW.PrintMore
set_option linter.unusedVariables false
set_option linter.unusedSimpArgs false

theorem nm_out {a : Int} (h : ¬ (1 ≤ a ∧ a ≤ 5)) : audit_Name.f a = some ⟨#[]⟩ := by
  unfold audit_Name.f
  by_cases h1 : a < 1
  · rw [if_pos h1]
  · rw [if_neg h1, if_pos (by omega)]
def nms : Int → ByteArray := fun a => if a = 1 then ⟨#[115, 112, 108, 105, 116]⟩ else if a = 2 then ⟨#[117, 110, 108, 105, 107, 101]⟩ else if a = 3 then ⟨#[119, 114, 111, 110, 103]⟩ else if a = 4 then ⟨#[115, 116, 114, 97, 121]⟩ else ⟨#[116, 119, 105, 99, 101]⟩
theorem nm_in {a : Int} (h : 1 ≤ a ∧ a ≤ 5) : audit_Name.f a = some (nms a) := by
  unfold audit_Name.f nms
  rw [if_neg (by omega), if_neg (by omega)]
  rcases (by omega : a = 1 ∨ a = 2 ∨ a = 3 ∨ a = 4 ∨ a = 5) with rfl | rfl | rfl | rfl | rfl
  · rw [if_pos (by unfold wrap64; omega)]; rfl
  · rw [if_neg (by unfold wrap64; omega), if_pos (by unfold wrap64; omega)]; rfl
  · rw [if_neg (by unfold wrap64; omega), if_neg (by unfold wrap64; omega), if_pos (by unfold wrap64; omega)]; rfl
  · rw [if_neg (by unfold wrap64; omega), if_neg (by unfold wrap64; omega), if_neg (by unfold wrap64; omega), if_pos (by unfold wrap64; omega)]; rfl
  · rw [if_neg (by unfold wrap64; omega), if_neg (by unfold wrap64; omega), if_neg (by unfold wrap64; omega), if_neg (by unfold wrap64; omega), if_pos (by unfold wrap64; omega)]; rfl
theorem nms_ne {a : Int} (h : 1 ≤ a ∧ a ≤ 5) : (nms a).toList.isEmpty = false := by
  rw [Go.ByteArray.toList_eq]
  rcases (by omega : a = 1 ∨ a = 2 ∨ a = 3 ∨ a = 4 ∨ a = 5) with rfl | rfl | rfl | rfl | rfl <;> rfl
theorem nms_inj {a b : Int} (h : 1 ≤ a ∧ a ≤ 5) (k : 1 ≤ b ∧ b ≤ 5) (hne : a ≠ b) : (nms a).toList ≠ (nms b).toList := by
  rw [Go.ByteArray.toList_eq, Go.ByteArray.toList_eq]
  rcases (by omega : a = 1 ∨ a = 2 ∨ a = 3 ∨ a = 4 ∨ a = 5) with rfl | rfl | rfl | rfl | rfl <;> rcases (by omega : b = 1 ∨ b = 2 ∨ b = 3 ∨ b = 4 ∨ b = 5) with rfl | rfl | rfl | rfl | rfl <;> first | exact absurd rfl hne | (intro e; revert e; decide)
/-- A name, and whether it is one. -/
theorem nm_any (a : Int) : ∃ s, audit_Name.f a = some s := by
  by_cases h : 1 ≤ a ∧ a ≤ 5
  · exact ⟨_, nm_in h⟩
  · exact ⟨_, nm_out h⟩
set_option maxHeartbeats 4000000 in
set_option maxRecDepth 100000 in
theorem names_walk (a b : Int) (w : World) : Calls Try.prog 6 #[.int .i64 a, .int .i64 b] w fun e w' => e = .returned (.bool true) ∧ Below w.heap.size w w' := by
  by_cases hin : 1 ≤ a ∧ a ≤ 5
  · obtain ⟨s, hs⟩ : ∃ s, nms a = s := ⟨_, rfl⟩
    obtain ⟨t, ht⟩ := nm_any b
    have hsf := nm_in hin
    have hne := nms_ne hin
    rw [hs] at hsf hne
    have d1 : decide (1 ≤ a) = true := decide_eq_true hin.1
    have d2 : decide (a ≤ 5) = true := decide_eq_true hin.2
    have HS := Aside0.mk hsf
    have HT := Aside0.mk ht
    by_cases hab : a = b
    · subst hab
      rw [hsf] at ht
      obtain rfl := Option.some.inj ht
      clear ht hs hsf hin
      go_enter Try.func6, Try.ntmps6
      go_wp2_with fail
      refine (audit_Name.calls a s w HS.out).mono ?_
      rintro e W1 ⟨rfl, hb1⟩
      have HB1 := Aside0.mk hb1
      clear hb1
      go_wp2_with fail
      refine (audit_Name.calls a s W1 HT.out).mono ?_
      rintro e W2 ⟨rfl, hb2⟩
      have HB2 := Aside0.mk (below_step HB1.out hb2)
      clear hb2
      go_wp2_with fail
      refine (one30_calls _).mono ?_
      rintro e W9 ⟨rfl, hb9⟩
      go_wp2_with fail
      go_ret
      exact ⟨rfl, below_step HB2.out hb9⟩
    · have hst : (s.toList == t.toList) = false := by
        rw [beq_eq_false_iff_ne]
        intro e
        by_cases hb : 1 ≤ b ∧ b ≤ 5
        · rw [nm_in hb] at ht
          obtain rfl := Option.some.inj ht
          rw [← hs] at e
          exact nms_inj hin hb hab e
        · rw [nm_out hb] at ht
          obtain rfl := Option.some.inj ht
          rw [e, Go.ByteArray.toList_eq] at hne
          cases hne
      have kab : (a == b) = false := by simpa using hab
      clear ht hs hsf hin hab
      go_enter Try.func6, Try.ntmps6
      go_wp2_with fail
      refine (audit_Name.calls a s w HS.out).mono ?_
      rintro e W1 ⟨rfl, hb1⟩
      have HB1 := Aside0.mk hb1
      clear hb1
      go_wp2_with fail
      refine (audit_Name.calls b t W1 HT.out).mono ?_
      rintro e W2 ⟨rfl, hb2⟩
      have HB2 := Aside0.mk (below_step HB1.out hb2)
      clear hb2
      go_wp2_with fail
      refine (one30_calls _).mono ?_
      rintro e W9 ⟨rfl, hb9⟩
      go_wp2_with fail
      go_ret
      exact ⟨rfl, below_step HB2.out hb9⟩
  · obtain ⟨t, ht⟩ := nm_any b
    have HS := Aside0.mk (nm_out hin)
    have HT := Aside0.mk ht
    obtain ⟨s, hs⟩ : ∃ s : ByteArray, (⟨#[]⟩ : ByteArray) = s := ⟨_, rfl⟩
    have hse : s.toList.isEmpty = true := by rw [← hs, Go.ByteArray.toList_eq]; rfl
    have hse2 : s.toList = [] := by rw [← hs, Go.ByteArray.toList_eq]
    rw [hs] at HS
    clear ht hs
    by_cases h1 : 1 ≤ a
    · have d1 : decide (1 ≤ a) = true := decide_eq_true h1
      have d2 : decide (a ≤ 5) = false := decide_eq_false (by omega)
      clear hin h1
      go_enter Try.func6, Try.ntmps6
      go_wp2_with fail
      refine (audit_Name.calls a s w HS.out).mono ?_
      rintro e W1 ⟨rfl, hb1⟩
      have HB1 := Aside0.mk hb1
      clear hb1
      go_wp2_with fail
      refine (audit_Name.calls b t W1 HT.out).mono ?_
      rintro e W2 ⟨rfl, hb2⟩
      have HB2 := Aside0.mk (below_step HB1.out hb2)
      clear hb2
      go_wp2_with fail
      all_goals (
        refine (one30_calls _).mono ?_
        rintro e W9 ⟨rfl, hb9⟩
        go_wp2_with fail
        go_ret
        exact ⟨rfl, below_step HB2.out hb9⟩)
    · have d1 : decide (1 ≤ a) = false := decide_eq_false h1
      clear hin h1
      go_enter Try.func6, Try.ntmps6
      go_wp2_with fail
      refine (audit_Name.calls a s w HS.out).mono ?_
      rintro e W1 ⟨rfl, hb1⟩
      have HB1 := Aside0.mk hb1
      clear hb1
      go_wp2_with fail
      refine (audit_Name.calls b t W1 HT.out).mono ?_
      rintro e W2 ⟨rfl, hb2⟩
      have HB2 := Aside0.mk (below_step HB1.out hb2)
      clear hb2
      go_wp2_with fail
      all_goals (
        refine (one30_calls _).mono ?_
        rintro e W9 ⟨rfl, hb9⟩
        go_wp2_with fail
        go_ret
        exact ⟨rfl, below_step HB2.out hb9⟩)
/-- The law's walk, as the row asks for it. -/
theorem names_row (a b : Int) (w : World) (_ : (Lit.int .i64 a).wf = true) (_ : (Lit.int .i64 b).wf = true) : Calls Try.prog 6 #[.int .i64 a, .int .i64 b] w fun e w' => e = .returned (.bool true) ∧ Below w.heap.size w w' := names_walk a b w
end Go.Proofs.Ytekbaconbemgpaa.PWe
