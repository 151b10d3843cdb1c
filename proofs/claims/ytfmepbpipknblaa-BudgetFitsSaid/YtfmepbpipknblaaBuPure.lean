/- Plain facts for Budget's two laws: one() holds, a fault's error, slips that fit. Helper text. -/
import Derived.Test.YtfmepbpipknblaaBuUp
import Derived.Test.YtfmepbpipknblaaPBux3
import Derived.Test.YtfmepbpipknblaaPBux12
namespace Go.Proofs.Ytfmepbpipknblaa.PBu
open Go.RowKit Go.Proofs.YtfmepbpipknblaaW.PrintWords Go.Proofs.YtfmepbpipknblaaW.PrintLast Go.Proofs.YtfmepbpipknblaaW.PrintMore
set_option linter.unusedVariables false
set_option linter.unusedSimpArgs false

set_option maxRecDepth 100000 in
theorem one_is : busbarlaw21_one.f 10 = some true := by decide +kernel
theorem one_at (k : Nat) (hk : 10 ≤ k) : busbarlaw21_one.f k = some true := at_rounds (g := fun k => busbarlaw21_one.f k) (fun k => busbarlaw21_one.mono k) hk one_is
theorem right_some (a0 a1 : Int) (a2 : Bool) (a3 a4 : Int) (l : List Int) (m : Int) : ∃ b, fault_Fault_Right.f 9 a0 a1 a2 a3 a4 l m = some b ∧ (b = 0 ∨ b = 2) := by
  have j2 : ∀ (k : Nat) (x : Bool), ∃ b, fault_Fault_Right.j2 (k + 1) x = some b ∧ (b = 0 ∨ b = 2) := fun k x => by
    simp only [fault_Fault_Right.j2]
    split
    · exact ⟨_, rfl, .inr rfl⟩
    · exact ⟨_, rfl, .inl rfl⟩
  have j1 : ∀ (k : Nat) (x1 : Int) (x : Bool) (y0 y1 : Int) (y2 : Bool) (y3 y4 : Int) (y5 : List Int), ∃ b, fault_Fault_Right.j1 (k + 2) x1 x y0 y1 y2 y3 y4 y5 = some b ∧ (b = 0 ∨ b = 2) := fun k x1 x y0 y1 y2 y3 y4 y5 => by
    simp only [fault_Fault_Right.j1]
    repeat' split
    all_goals first | exact ⟨_, rfl, .inr rfl⟩ | exact j2 _ _
  have j0 : ∀ (k : Nat) (x1 : Int) (x : Bool) (y0 y1 : Int) (y2 : Bool) (y3 y4 : Int) (y5 : List Int), ∃ b, fault_Fault_Right.j0 (k + 3) x1 x y0 y1 y2 y3 y4 y5 = some b ∧ (b = 0 ∨ b = 2) := fun k x1 x y0 y1 y2 y3 y4 y5 => by
    simp only [fault_Fault_Right.j0]
    repeat' split
    all_goals first | exact ⟨_, rfl, .inr rfl⟩ | exact j1 _ _ _ _ _ _ _ _ _
  unfold fault_Fault_Right.f
  repeat' split
  all_goals first | exact ⟨_, rfl, .inl rfl⟩ | exact j0 6 _ _ _ _ _ _ _ _
theorem right_at {a0 a1 : Int} {a2 : Bool} {a3 a4 : Int} {l : List Int} {m b : Int} (h : fault_Fault_Right.f 9 a0 a1 a2 a3 a4 l m = some b) (k : Nat) (hk : 9 ≤ k) : fault_Fault_Right.f k a0 a1 a2 a3 a4 l m = some b :=
  at_rounds (g := fun k => fault_Fault_Right.f k a0 a1 a2 a3 a4 l m) (fun k => fault_Fault_Right.mono _ _ _ _ _ _ _ k) hk h
theorem right_none (m : Int) : fault_Fault_Right.f 9 0 0 false 0 0 [] m = some 0 := rfl
theorem okL_of {l : List S40} (h : l.length ≤ 1000) (hw : ∀ s ∈ l, (Lit.int .i64 s.f0).wf = true) : okL l = true := by simp [okL, h]; exact hw
theorem fits_mem (m : Int) : ∀ (r acc : List S40) (s : S40), s ∈ fits m acc r → s ∈ acc ∨ s ∈ r
  | [], acc, s, h => by simp [fits] at h; exact .inl h
  | x :: r, acc, s, h => by
    rw [fits] at h
    split at h
    · rcases fits_mem m r (acc ++ [x]) s h with q | q
      · simp at q
        rcases q with q | q
        · exact .inl q
        · exact .inr (by simp [q])
      · exact .inr (by simp [q])
    · rcases fits_mem m r acc s h with q | q
      · exact .inl q
      · exact .inr (by simp [q])
theorem chk_last (m : Int) : ∀ (x a : List S40) (s : S40), chk m a x = 0 → mayB s m = true → nearB (a ++ x) s = false → chk m a (x ++ [s]) = 0
  | [], a, s, _, h1, h2 => by
    rw [List.append_nil] at h2
    rw [List.nil_append, chk, if_pos h1, if_neg (by rw [h2]; decide), chk]
  | y :: x, a, s, h, h1, h2 => by
    rw [chk] at h
    rw [List.cons_append, chk]
    by_cases q1 : mayB y m = true
    · rw [if_pos q1] at h ⊢
      by_cases q2 : nearB a y = true
      · rw [if_pos q2] at h
        omega
      · rw [if_neg q2] at h ⊢
        exact chk_last m x (a ++ [y]) s h h1 (by rw [List.append_assoc]; exact h2)
    · rw [if_neg q1] at h
      omega
theorem chk_fits (m : Int) : ∀ (r acc : List S40), chk m [] acc = 0 → chk m [] (fits m acc r) = 0
  | [], acc, h => by rw [fits]; exact h
  | s :: r, acc, h => by
    rw [fits]
    split
    · rename_i q
      exact chk_fits m r _ (chk_last m acc [] s h q.1 q.2)
    · exact chk_fits m r acc h
theorem fits_all (m : Int) : ∀ (r acc : List S40), chk m acc r = 0 → fits m acc r = acc ++ r
  | [], acc, h => by rw [fits, List.append_nil]
  | s :: r, acc, h => by
    rw [chk] at h
    by_cases q1 : mayB s m = true
    · rw [if_pos q1] at h
      by_cases q2 : nearB acc s = true
      · rw [if_pos q2] at h
        omega
      · rw [if_neg q2] at h
        rw [fits, if_pos ⟨q1, by simpa using q2⟩, fits_all m r _ h, List.append_assoc]
        rfl
    · rw [if_neg q1] at h
      omega
theorem xor_ne (a : Int) : Go.bits .xor .i64 a 1 ≠ a := by
  intro h
  have p1 : ((BitVec.ofInt 64 a).toNat ^^^ 1) % 2 = 1 ↔ ¬((BitVec.ofInt 64 a).toNat % 2 = 1 ↔ 1 % 2 = 1) := Nat.xor_mod_two_eq_one
  have p2 : (BitVec.ofInt 64 a).toNat = (a % 2 ^ 64).toNat := by simp [BitVec.toNat_ofInt]
  have p3 : Go.bits .xor .i64 a 1 = IntKind.i64.wrap (((BitVec.ofInt 64 a).toNat ^^^ 1 : Nat) : Int) := by
    show IntKind.i64.wrap (((BitVec.ofInt 64 a) ^^^ (BitVec.ofInt 64 1)).toNat : Int) = _
    rw [BitVec.toNat_xor]
    rfl
  rw [p3] at h
  generalize (BitVec.ofInt 64 a).toNat ^^^ 1 = N at *
  generalize (BitVec.ofInt 64 a).toNat = M at *
  simp only [IntKind.wrap, IntKind.signed, IntKind.bits, Bool.true_and, decide_eq_true_eq] at h
  split at h <;> omega
end Go.Proofs.Ytfmepbpipknblaa.PBu
