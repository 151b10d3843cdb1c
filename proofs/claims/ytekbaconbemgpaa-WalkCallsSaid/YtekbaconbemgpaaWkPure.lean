/- What walks, views and spans come to, in plain words. Helper text. -/
import Derived.Test.YtekbaconbemgpaaWkWin
import Derived.Test.YtekbaconbemgpaaPWex9
import Derived.Test.YtekbaconbemgpaaWkMax
namespace Go.Proofs.Ytekbaconbemgpaa.PWe
open Go.RowKit Go.Proofs.YtekbaconbemgpaaW.PrintWords Go.Proofs.YtekbaconbemgpaaW.PrintLast Go.Proofs.YtekbaconbemgpaaW.PrintMore
set_option linter.unusedVariables false
set_option linter.unusedSimpArgs false

theorem wr {x : Int} (h0 : -9223372036854775808 ≤ x) (h1 : x < 9223372036854775808) : wrap64 x = x := by unfold wrap64; omega
theorem up {i : Nat} (h : i < 9000000000000000000) : wrap64 ((i : Int) + 1) = ((i + 1 : Nat) : Int) := by unfold wrap64; omega
theorem rd_at {l : List Int} {i : Nat} (h : i < l.length) : rd l (i : Int) = l[i] := by
  unfold rd
  rw [Int.toNat_natCast, List.getD_eq_getElem?_getD, List.getElem?_eq_getElem h]; rfl
theorem rd76 {l : List S76} {i : Nat} (h : i < l.length) : rd_T76 l (i : Int) = l[i] := by
  unfold rd_T76
  rw [Int.toNat_natCast, List.getD_eq_getElem?_getD, List.getElem?_eq_getElem h]; rfl
theorem rd47 {l : List S47} {i : Nat} (h : i < l.length) : rd_T47 l (i : Int) = l[i] := by
  unfold rd_T47
  rw [Int.toNat_natCast, List.getD_eq_getElem?_getD, List.getElem?_eq_getElem h]; rfl

/-! ### from -/
def fromL (many cand md : Int) : List Int := (List.range many.toNat).map fun (k : Nat) => if (k : Int) = cand then md else -1 - (k : Int)
theorem fromL_len (many cand md : Int) : (fromL many cand md).length = many.toNat := by simp [fromL]
theorem from_l0 (cand md : Int) : ∀ (d k i : Nat) (x : List Int), i + d = x.length → d < k → x.length ≤ 1000 → walk_from.l0 k cand md x (x.length : Int) (i : Int) = some (x.take i ++ (fromL (x.length : Int) cand md).drop i)
  | 0, k + 1, i, x, hi, hk, hx => by
    rw [walk_from.l0, if_neg (by omega)]
    rw [List.take_of_length_le (by omega), List.drop_eq_nil_of_le (by rw [fromL_len]; omega), List.append_nil]
  | d + 1, k + 1, i, x, hi, hk, hx => by
    have hix : i < x.length := by omega
    rw [walk_from.l0, if_pos (by omega), if_pos (by omega), if_pos (by omega)]
    rw [up (by omega), Int.toNat_natCast, wr (x := -1 - (i : Int)) (by omega) (by omega)]
    have key : ∀ v : Int, (if (i : Int) = cand then md else -1 - (i : Int)) = v → walk_from.l0 k cand md (x.set i v) (x.length : Int) ((i + 1 : Nat) : Int) = some (x.take i ++ (fromL (x.length : Int) cand md).drop i) := by
      intro v hv
      have h := from_l0 cand md d k (i + 1) (x.set i v) (by simp; omega) (by omega) (by simpa using hx)
      rw [List.length_set] at h
      rw [h]
      congr 1
      have h2 : (fromL (x.length : Int) cand md)[i]'(by rw [fromL_len]; omega) = v := by simp only [fromL, List.getElem_map, List.getElem_range]; exact hv
      rw [List.drop_eq_getElem_cons (i := i) (by rw [fromL_len]; omega), h2]
      have h3 : (x.set i v).take (i + 1) = x.take i ++ [v] := by
        rw [List.take_succ_eq_append_getElem (by simpa using hix)]
        rw [List.take_set, List.set_eq_of_length_le (by simp; omega), List.getElem_set_self]
      rw [h3, List.append_assoc]
      rfl
    show (if (i : Int) = cand then _ else _) = _
    split
    · rename_i h
      rw [List.set_set]
      exact key md (if_pos h)
    · rename_i h
      exact key _ (if_neg h)
theorem from_f {k : Nat} {many : Int} (cand md : Int) (h0 : 0 ≤ many) (h1 : many ≤ 255) (hk : many < k) : walk_from.f k many cand md = some (fromL many cand md) := by
  rw [walk_from.f, if_pos h0, if_pos (by omega)]
  show walk_from.l0 _ _ _ _ _ _ = _
  have hl : (List.replicate many.toNat (0 : Int)).length = many.toNat := by simp
  have h := from_l0 cand md many.toNat k 0 (List.replicate many.toNat 0) (by omega) (by omega) (by omega)
  rw [show ((0 : Nat) : Int) = 0 from rfl] at h
  rw [h, hl, Int.toNat_of_nonneg h0]
  simp

/-! ### Where one stands first -/
def idxL (a : Int) : List Int → Int → Int
  | [], _ => -1
  | x :: xs, i => if a = x then i else idxL a xs (i + 1)
theorem index_l0 (a : Int) (l : List Int) : ∀ (d k i : Nat), i + d = l.length → d < k → l.length ≤ 1000000 → slices_Index_int_int.l0 k l a (l.length : Int) (i : Int) = some (idxL a (l.drop i) (i : Int))
  | 0, k + 1, i, hi, hk, hl => by
    rw [slices_Index_int_int.l0, if_neg (by omega), List.drop_eq_nil_of_le (by omega)]; rfl
  | d + 1, k + 1, i, hi, hk, hl => by
    have hil : i < l.length := by omega
    rw [slices_Index_int_int.l0, if_pos (by omega), if_pos (by omega), if_pos (by omega), rd_at hil, up (by omega), index_l0 a l d k (i + 1) (by omega) (by omega) hl, List.drop_eq_getElem_cons hil, idxL]
    split <;> simp
theorem index_f {k : Nat} (l : List Int) (a : Int) (hk : l.length < k) (hl : l.length ≤ 1000000) : slices_Index_int_int.f k l a = some (idxL a l 0) := by
  rw [slices_Index_int_int.f, show (0 : Int) = ((0 : Nat) : Int) from rfl, index_l0 a l l.length k 0 (by omega) hk hl]; rfl
theorem idxL_neg {a : Int} : ∀ (l : List Int) (i : Int), (∀ x ∈ l, x ≠ a) → idxL a l i = -1
  | [], _, _ => rfl
  | x :: xs, i, h => by
    rw [idxL, if_neg (fun e => h x (by simp) e.symm)]
    exact idxL_neg xs _ fun y hy => h y (by simp [hy])
theorem idxL_ge {a : Int} : ∀ (l : List Int) (i : Int), 0 ≤ i → -1 ≤ idxL a l i
  | [], _, _ => by show (-1 : Int) ≤ -1; omega
  | x :: xs, i, h => by
    rw [idxL]
    split
    · omega
    · exact idxL_ge xs _ (by omega)
theorem contains_f {k : Nat} (l : List Int) (a : Int) (hk : l.length < k) (hl : l.length ≤ 1000000) : slices_Contains_int_int.f k l a = some (decide (idxL a l 0 ≥ 0)) := by
  rw [slices_Contains_int_int.f, index_f l a hk hl]; rfl

/-! ### Bits -/
def manyOf (x : S76) : Int := if x.f4.length ≤ 1 then 1 else if x.f4.length ≤ 4 then (x.f4.length : Int) else 4
def wordsOf (x : S76) : Int := if x.f2 < 0 then 0 else if x.f2 ≤ 8 then x.f2 else 8
def bitsOf (x : S76) : Int := if x.f0 = 0 then 10 + 8 * wordsOf x + 4 * (manyOf x - 1) else if x.f0 = 1 then (if x.f1 < 0 then 0 else if x.f1 ≤ 1000 then x.f1 else 1000) else if x.f0 = 2 then 6 else 0
theorem bitsOf_bd (x : S76) : 0 ≤ bitsOf x ∧ bitsOf x ≤ 1000 := by
  unfold bitsOf wordsOf manyOf
  repeat' split
  all_goals omega
theorem cut_f (a b : Int) : plan_cut.f a b = some (mx 0 (mn a b)) := rfl
theorem many_f (a b c d : Int) (f t : List Int) : plan_Window_many.f a b c d f t = some (manyOf ⟨a, b, c, d, f, t⟩) := by
  unfold plan_Window_many.f
  rw [cut_f]
  show some _ = some _
  congr 1
  unfold mx mn manyOf
  dsimp only
  repeat' split
  all_goals omega
theorem bits_f (a b c d : Int) (f t : List Int) : plan_Window_bits.f a b c d f t = some (bitsOf ⟨a, b, c, d, f, t⟩) := by
  unfold plan_Window_bits.f
  rw [cut_f, cut_f, many_f]
  have hm : 1 ≤ manyOf ⟨a, b, c, d, f, t⟩ ∧ manyOf ⟨a, b, c, d, f, t⟩ ≤ 4 := by unfold manyOf; repeat' split <;> simp_all <;> omega
  have hw : mx 0 (mn c 8) = wordsOf ⟨a, b, c, d, f, t⟩ := by unfold mx mn wordsOf; repeat' split <;> simp_all <;> omega
  have hw2 : 0 ≤ wordsOf ⟨a, b, c, d, f, t⟩ ∧ wordsOf ⟨a, b, c, d, f, t⟩ ≤ 8 := by unfold wordsOf; repeat' split <;> simp_all <;> omega
  unfold bitsOf
  by_cases h0 : a = 0
  · rw [if_pos h0, if_pos h0]
    show some _ = some _
    rw [hw]
    congr 1
    rw [wr (x := manyOf _ - 1) (by omega) (by omega), wr (x := 8 * _) (by omega) (by omega), wr (x := 10 + _) (by omega) (by omega), wr (x := 4 * _) (by omega) (by omega), wr (by omega) (by omega)]
  rw [if_neg h0, if_neg h0]
  by_cases h1 : a = 1
  · rw [if_pos h1, if_pos h1]
    show some _ = some _
    congr 1
    unfold mx mn
    dsimp only
    repeat' split
    all_goals omega
  rw [if_neg h1, if_neg h1]
  split <;> simp_all
theorem ticks_f (a b c d : Int) (f t : List Int) : plan_Ticks.f a b c d f t = some (20 * bitsOf ⟨a, b, c, d, f, t⟩) := by
  unfold plan_Ticks.f
  rw [bits_f]
  show some _ = some _
  have := bitsOf_bd ⟨a, b, c, d, f, t⟩
  rw [wr (by omega) (by omega), Int.mul_comm]

/-! ### A view's slots -/
def slotOf (at_ md : Int) (x : S76) : S47 := if x.f0 = 0 then ⟨x.f0, at_, 20 * bitsOf x, wordsOf x, x.f3, manyOf x, idxL md (x.f4.take 4) 0, decide (idxL md x.f5 0 ≥ 0)⟩ else ⟨x.f0, at_, 20 * bitsOf x, 0, 0, 0, -1, false⟩
theorem slot_f {k : Nat} (x : S76) (at_ md : Int) (h4 : x.f4.length ≤ 100) (h5 : x.f5.length < k) (h5' : x.f5.length ≤ 100) (hk : 4 < k) : plan_Window_slot.f k x.f0 x.f1 x.f2 x.f3 x.f4 x.f5 at_ md = some ((slotOf at_ md x).f0, (slotOf at_ md x).f1, (slotOf at_ md x).f2, (slotOf at_ md x).f3, (slotOf at_ md x).f4, (slotOf at_ md x).f5, (slotOf at_ md x).f6, (slotOf at_ md x).f7) := by
  unfold plan_Window_slot.f
  rw [ticks_f, cut_f, many_f]
  show (if x.f0 = 0 then _ else _) = _
  have hn : ((mn (x.f4.length : Int) 4).toNat) = min x.f4.length 4 := by unfold mn; split <;> omega
  have ht : x.f4.take (mn (x.f4.length : Int) 4).toNat = x.f4.take 4 := by
    rw [hn]
    by_cases h : x.f4.length ≤ 4
    · rw [Nat.min_eq_left h, List.take_of_length_le (Nat.le_refl _), List.take_of_length_le h]
    · rw [Nat.min_eq_right (by omega)]
  unfold slotOf
  split
  · show (if 0 ≤ mn (x.f4.length : Int) 4 then _ else _) = _
    rw [if_pos (by unfold mn; split <;> omega), if_pos (by unfold mn; split <;> omega), ht, index_f _ _ (by simp; omega) (by simp; omega)]
    show (slices_Contains_int_int.f k x.f5 md).bind _ = _
    rw [contains_f _ _ h5 (by omega)]
    show some _ = some _
    have hw : mx 0 (mn x.f2 8) = wordsOf x := by unfold mx mn wordsOf; repeat' split <;> omega
    rw [hw]
  · rfl
def viewL (md : Int) : Int → List S76 → List S47
  | at_, [] => [⟨4, at_, 120, 0, 0, 0, -1, false⟩]
  | at_, x :: xs => if x.f0 < 0 ∨ x.f0 > 2 then viewL md at_ xs else slotOf at_ md x :: viewL md (at_ + 20 * bitsOf x) xs
end Go.Proofs.Ytekbaconbemgpaa.PWe
