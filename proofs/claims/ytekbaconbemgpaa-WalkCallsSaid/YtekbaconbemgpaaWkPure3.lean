/- What a command's bytes come to, in plain words. Helper text. -/
import Derived.Test.YtekbaconbemgpaaWkPure2
namespace Go.Proofs.Ytekbaconbemgpaa.PWe
open Go.RowKit Go.Proofs.YtekbaconbemgpaaW.PrintWords Go.Proofs.YtekbaconbemgpaaW.PrintLast Go.Proofs.YtekbaconbemgpaaW.PrintMore
set_option linter.unusedVariables false
set_option linter.unusedSimpArgs false

def Bytes (b : List Int) : Prop := ∀ x ∈ b, 0 ≤ x ∧ x ≤ 255
theorem Bytes.at {b : List Int} (h : Bytes b) (i : Int) : 0 ≤ rd b i ∧ rd b i ≤ 255 := by
  unfold rd
  rw [List.getD_eq_getElem?_getD]
  cases hq : b[i.toNat]? with
  | none => decide
  | some x => exact h x (List.mem_of_getElem? hq)
theorem or256 (a b : Int) (ha : 0 ≤ a ∧ a ≤ 255) (hb : 0 ≤ b ∧ b ≤ 255) : bits BinOp.or IntKind.i64 (a * 256) b = 256 * a + b := by
  obtain ⟨m, rfl⟩ := Int.eq_ofNat_of_zero_le ha.1
  obtain ⟨n, rfl⟩ := Int.eq_ofNat_of_zero_le hb.1
  have key : (BitVec.ofInt 64 ((m : Int) * 256) ||| BitVec.ofInt 64 (n : Int)).toNat = 256 * m + n := by
    rw [BitVec.toNat_or, BitVec.toNat_ofInt, BitVec.toNat_ofInt]
    have h1 : ((m : Int) * 256 % ((2 ^ 64 : Nat) : Int)).toNat = 2 ^ 8 * m := by omega
    have h2 : ((n : Int) % ((2 ^ 64 : Nat) : Int)).toNat = n := by omega
    rw [h1, h2, ← Nat.two_pow_add_eq_or_of_lt (by omega)]
  show IntKind.i64.wrap ((BitVec.ofInt 64 ((m : Int) * 256) ||| BitVec.ofInt 64 (n : Int)).toNat : Nat) = _
  rw [key, IntKind.wrap_i64]
  omega
/-- May a command be? -/
def rightP (op a w c m bi t : Int) : Bool :=
  if op < 0 ∨ op > 8 then false else if (op = 1 ∨ op = 2 ∨ op = 3) ∧ (w < 1 ∨ w > 8 ∨ m < 1 ∨ m > 4) then false else
  if (op = 1 ∨ op = 2) ∧ (a < 0 ∨ a > 64 - w) then false else if op = 1 ∧ (c < 0 ∨ c ≥ m) then false else if op = 4 ∧ (bi < 1 ∨ bi > 100) then false else decide ((op ≠ 6 ∧ op ≠ 8) ∨ 0 ≤ t ∧ t ≤ 1023)
theorem within_f (a b c : Int) : cmd_within.f a b c = some (decide (b ≤ a ∧ a ≤ c)) := by
  unfold cmd_within.f
  by_cases h : a ≥ b
  · rw [if_pos h]; congr 1; simp [h]
  · rw [if_neg h]; congr 1; simp; omega
theorem rightP_iff (op a w c m bi t : Int) : rightP op a w c m bi t = true ↔ (0 ≤ op ∧ op ≤ 8) ∧ ((op = 1 ∨ op = 2 ∨ op = 3) → (1 ≤ w ∧ w ≤ 8) ∧ 1 ≤ m ∧ m ≤ 4) ∧ ((op = 1 ∨ op = 2) → 0 ≤ a ∧ a ≤ 64 - w) ∧ (op = 1 → 0 ≤ c ∧ c < m) ∧ (op = 4 → 1 ≤ bi ∧ bi ≤ 100) ∧ ((op = 6 ∨ op = 8) → 0 ≤ t ∧ t ≤ 1023) := by
  unfold rightP
  repeat' split
  all_goals simp only [Bool.false_eq_true, false_iff, decide_eq_true_eq]
  all_goals omega
theorem some_iff {a b : Bool} (h : a = true ↔ b = true) : (some a : Option Bool) = some b := congrArg some (Bool.eq_iff_iff.2 h)
theorem message_f {k : Nat} (hk : 0 < k) (op a w c m bi t : Int) (hop : op = 1 ∨ op = 2 ∨ op = 3) (hm : -1000 ≤ m ∧ m ≤ 1000) (hw : -1000 ≤ w ∧ w ≤ 1000) : cmd_Command_message.f k op a w c m bi t = some (rightP op a w c m bi t) := by
  obtain ⟨k, rfl⟩ : ∃ q, k = q + 1 := ⟨k - 1, by omega⟩
  unfold cmd_Command_message.f
  rw [within_f, within_f]
  by_cases h1 : 1 ≤ w ∧ w ≤ 8
  · by_cases h2 : 1 ≤ m ∧ m ≤ 4
    · rw [decide_eq_true h1, decide_eq_true h2]
      show cmd_Command_message.j0 (k + 1) false op a w c m bi t = _
      rw [cmd_Command_message.j0, if_neg (by decide), within_f, within_f, wr (by omega) (by omega), wr (by omega) (by omega)]
      by_cases ha : 0 ≤ a ∧ a ≤ 64 - w
      all_goals by_cases hc : 0 ≤ c ∧ c ≤ m - 1
      all_goals rcases hop with rfl | rfl | rfl
      all_goals simp only [ha, hc, and_self, decide_true, decide_false, Option.bind_some, if_true, if_false, Bool.false_eq_true, Int.reduceEq]
      all_goals refine some_iff ?_
      all_goals rw [rightP_iff]
      all_goals simp
      all_goals omega
    · rw [decide_eq_true h1, decide_eq_false h2]
      show cmd_Command_message.j0 (k + 1) true op a w c m bi t = _
      rw [cmd_Command_message.j0, if_pos rfl]
      refine some_iff ?_
      rw [rightP_iff]
      simp only [Bool.false_eq_true, false_iff]
      omega
  · rw [decide_eq_false h1]
    show cmd_Command_message.j0 (k + 1) true op a w c m bi t = _
    rw [cmd_Command_message.j0, if_pos rfl]
    refine some_iff ?_
    rw [rightP_iff]
    simp only [Bool.false_eq_true, false_iff]
    omega
theorem right_f {k : Nat} (hk : 3 < k) (op a w c m bi t : Int) (h0 : 0 ≤ op) (h8 : op ≤ 8) (hm : -1000 ≤ m ∧ m ≤ 1000) (hw : -1000 ≤ w ∧ w ≤ 1000) : cmd_Command_Right.f k op a w c m bi t = some (rightP op a w c m bi t) := by
  obtain ⟨k, rfl⟩ : ∃ q, k = q + 3 := ⟨k - 3, by omega⟩
  unfold cmd_Command_Right.f
  have hms := fun h => message_f (k := k + 1) (by omega) op a w c m bi t h hm hw
  rcases (by omega : op = 0 ∨ op = 1 ∨ op = 2 ∨ op = 3 ∨ op = 4 ∨ op = 5 ∨ op = 6 ∨ op = 7 ∨ op = 8) with rfl | rfl | rfl | rfl | rfl | rfl | rfl | rfl | rfl
  all_goals simp only [cmd_Command_Right.j0, cmd_Command_Right.j1, within_f, Int.reduceEq, if_true, if_false, beq_self_eq_true, Int.reduceBEq, Bool.false_eq_true, Option.bind_some]
  · exact some_iff (by rw [rightP_iff]; simp)
  · rw [hms (by decide)]; rfl
  · rw [hms (by decide)]; rfl
  · rw [hms (by decide)]; rfl
  · exact some_iff (by rw [rightP_iff]; simp)
  · exact some_iff (by rw [rightP_iff]; simp)
  · exact some_iff (by rw [rightP_iff]; simp)
  · exact some_iff (by rw [rightP_iff]; simp)
  · exact some_iff (by rw [rightP_iff]; simp)
/-- How many bytes a command has. -/
def longP (op : Int) : Int := if op = 1 then 5 else if op = 2 then 4 else if op = 3 then 3 else if op = 4 then 2 else if op = 6 then 3 else if op = 8 then 3 else 1
def cmdP (b : List Int) (at_ : Int) (op : Int) : List Int :=
  if op = 1 then [op, rd b (at_ + 1), rd b (at_ + 2), rd b (at_ + 3), rd b (at_ + 4), 0, 0] else if op = 2 then [op, rd b (at_ + 1), rd b (at_ + 2), 0, rd b (at_ + 3), 0, 0] else
  if op = 3 then [op, 0, rd b (at_ + 1), 0, rd b (at_ + 2), 0, 0] else if op = 4 then [op, 0, 0, 0, 0, rd b (at_ + 1), 0] else
  if op = 6 ∨ op = 8 then [op, 0, 0, 0, 0, 0, 256 * rd b (at_ + 1) + rd b (at_ + 2)] else [op, 0, 0, 0, 0, 0, 0]
def rightL (C : List Int) : Bool := rightP (C.getD 0 0) (C.getD 1 0) (C.getD 2 0) (C.getD 3 0) (C.getD 4 0) (C.getD 5 0) (C.getD 6 0)
def readP (b : List Int) (at_ : Int) : List Int × Int × Int :=
  if at_ < 0 ∨ at_ > (b.length : Int) then (zero7, 0, 2) else if at_ = (b.length : Int) then (zero7, 0, 10) else
  if rd b at_ > 8 then (zero7, 0, 11) else if longP (rd b at_) > (b.length : Int) - at_ then (zero7, 0, 10) else
  if rightL (cmdP b at_ (rd b at_)) = true then (cmdP b at_ (rd b at_), at_ + longP (rd b at_), 0) else (zero7, 0, 11)
theorem rd_drop (b : List Int) (n j : Nat) : rd (b.drop n) (j : Int) = rd b ((n + j : Nat) : Int) := by
  unfold rd
  rw [Int.toNat_natCast, Int.toNat_natCast, List.getD_eq_getElem?_getD, List.getD_eq_getElem?_getD, List.getElem?_drop]
theorem readF_is {b : List Int} (hb : Bytes b) (hl : b.length ≤ 100000) (at_ : Int) : readF 16 b at_ = some (readP b at_) := by
  unfold readF readP
  by_cases h0 : at_ < 0
  · rw [if_pos h0, if_pos (.inl h0)]
  rw [if_neg h0]
  by_cases h1 : at_ > (b.length : Int)
  · rw [if_pos h1, if_pos (.inr h1)]
  rw [if_neg h1, if_neg (show ¬ (at_ < 0 ∨ at_ > (b.length : Int)) by omega)]
  by_cases h2 : at_ = (b.length : Int)
  · rw [if_pos h2, if_pos h2]
  rw [if_neg h2, if_neg h2]
  have hop := hb.at at_
  rw [wr (x := rd b at_) (by omega) (by omega)]
  generalize hO : rd b at_ = op at *
  by_cases h8 : op > 8
  · rw [if_pos h8, if_pos h8]
  rw [if_neg h8, if_neg h8]
  have hlen : ((b.drop (at_ + 1).toNat).length : Int) = b.length - at_ - 1 := by rw [List.length_drop]; omega
  have hneed : needI op = longP op - 1 := by
    rcases (by omega : op = 0 ∨ op = 1 ∨ op = 2 ∨ op = 3 ∨ op = 4 ∨ op = 5 ∨ op = 6 ∨ op = 7 ∨ op = 8) with h | h | h | h | h | h | h | h | h
    all_goals (subst h; decide)
  rw [hlen, hneed]
  have hlp : 1 ≤ longP op ∧ longP op ≤ 5 := by unfold longP; repeat' split <;> omega
  by_cases h3 : (b.length : Int) - at_ - 1 < longP op - 1
  · rw [if_pos h3, if_pos (by omega)]
  rw [if_neg h3, if_neg (by omega)]
  have hr : ∀ j : Nat, rd (b.drop (at_ + 1).toNat) (j : Int) = rd b (at_ + 1 + j) := by
    intro j
    rw [rd_drop]
    congr 1
    omega
  have hby := fun j : Nat => hb.at (at_ + 1 + j)
  have hw := fun j : Nat => wr (x := rd b (at_ + 1 + j)) (by have := hby j; omega) (by have := hby j; omega)
  have hC : cmdC (b.drop (at_ + 1).toNat) op = cmdP b at_ op := by
    have r0 : wrap64 (rd (b.drop (at_ + 1).toNat) ((0 : Nat) : Int)) = rd b (at_ + 1) := by rw [hr, hw, show at_ + 1 + ((0 : Nat) : Int) = at_ + 1 by omega]
    have r1 : wrap64 (rd (b.drop (at_ + 1).toNat) ((1 : Nat) : Int)) = rd b (at_ + 2) := by rw [hr, hw, show at_ + 1 + ((1 : Nat) : Int) = at_ + 2 by omega]
    have r2 : wrap64 (rd (b.drop (at_ + 1).toNat) ((2 : Nat) : Int)) = rd b (at_ + 3) := by rw [hr, hw, show at_ + 1 + ((2 : Nat) : Int) = at_ + 3 by omega]
    have r3 : wrap64 (rd (b.drop (at_ + 1).toNat) ((3 : Nat) : Int)) = rd b (at_ + 4) := by rw [hr, hw, show at_ + 1 + ((3 : Nat) : Int) = at_ + 4 by omega]
    have hat : atV (rd (b.drop (at_ + 1).toNat) 0) (rd (b.drop (at_ + 1).toNat) 1) = 256 * rd b (at_ + 1) + rd b (at_ + 2) := by
      unfold atV
      show bits BinOp.or IntKind.i64 (wrap64 (wrap64 (rd (b.drop (at_ + 1).toNat) ((0 : Nat) : Int)) * 256)) (wrap64 (rd (b.drop (at_ + 1).toNat) ((1 : Nat) : Int))) = _
      rw [r0, r1]
      have b0 := hb.at (at_ + 1)
      rw [wr (by omega) (by omega), or256 _ _ b0 (hb.at (at_ + 2))]
    unfold cmdC cmdP
    rcases (by omega : op = 0 ∨ op = 1 ∨ op = 2 ∨ op = 3 ∨ op = 4 ∨ op = 5 ∨ op = 6 ∨ op = 7 ∨ op = 8) with h | h | h | h | h | h | h | h | h
    all_goals subst h
    · rfl
    · show [(1 : Int), wrap64 (rd _ ((0 : Nat) : Int)), wrap64 (rd _ ((1 : Nat) : Int)), wrap64 (rd _ ((2 : Nat) : Int)), wrap64 (rd _ ((3 : Nat) : Int)), 0, 0] = _
      rw [r0, r1, r2, r3]; rfl
    · show [(2 : Int), wrap64 (rd _ ((0 : Nat) : Int)), wrap64 (rd _ ((1 : Nat) : Int)), 0, wrap64 (rd _ ((2 : Nat) : Int)), 0, 0] = _
      rw [r0, r1, r2]; rfl
    · show [(3 : Int), 0, wrap64 (rd _ ((0 : Nat) : Int)), 0, wrap64 (rd _ ((1 : Nat) : Int)), 0, 0] = _
      rw [r0, r1]; rfl
    · show [(4 : Int), 0, 0, 0, 0, wrap64 (rd _ ((0 : Nat) : Int)), 0] = _
      rw [r0]; rfl
    · rfl
    · rw [if_pos (show goesF 6 = true from rfl), hat]; rfl
    · rfl
    · rw [if_pos (show goesF 8 = true from rfl), hat]; rfl
  rw [hC]
  have hCb : 0 ≤ (cmdP b at_ op).getD 0 0 ∧ (cmdP b at_ op).getD 0 0 ≤ 8 ∧ (0 ≤ (cmdP b at_ op).getD 4 0 ∧ (cmdP b at_ op).getD 4 0 ≤ 255) ∧ (0 ≤ (cmdP b at_ op).getD 2 0 ∧ (cmdP b at_ op).getD 2 0 ≤ 255) := by
    have b1 := hb.at (at_ + 1)
    have b2 := hb.at (at_ + 2)
    have b3 := hb.at (at_ + 3)
    have b4 := hb.at (at_ + 4)
    unfold cmdP
    repeat' split
    all_goals simp
    all_goals omega
  rw [right_f (by decide) _ _ _ _ _ _ _ hCb.1 hCb.2.1 (by omega) (by omega)]
  show (if rightL (cmdP b at_ op) = true then _ else _) = _
  rw [wr (x := at_ + 1) (by omega) (by omega), wr (x := at_ + 1 + (longP op - 1)) (by omega) (by omega), show at_ + 1 + (longP op - 1) = at_ + longP op by omega]
  split <;> rfl
end Go.Proofs.Ytekbaconbemgpaa.PWe
