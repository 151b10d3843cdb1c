/- slices.Max of whole numbers: its walk. Helper text. -/
import Derived.Test.YtbaapakkdnhcmaaPWex0
import Derived.Test.YtbaapakkdnhcmaaKx
import Derived.Test.YtbaapakkdnhcmaaWkWin
import Derived.Test.YtbaapakkdnhcmaaPWex6
namespace Go.Proofs.Ytbaapakkdnhcmaa.PWe
open Go.RowKit Go.Proofs.Ytbaapakkdnhcmaa.Kx Go.Proofs.YtbaapakkdnhcmaaW.PrintWords Go.Proofs.YtbaapakkdnhcmaaW.PrintLast Go.Proofs.YtbaapakkdnhcmaaW.PrintMore
set_option linter.unusedVariables false
set_option linter.unusedSimpArgs false
/-- The greatest of the first k + 1. -/
def mxl (l : List Int) : Nat → Int
  | 0 => rd l 0
  | k + 1 => if mxl l k < rd l ((k + 1 : Nat) : Int) then rd l ((k + 1 : Nat) : Int) else mxl l k
def slices_Max_int_int.f (l : List Int) : Option Int := if l.length = 0 then none else some (mxl l (l.length - 1))
set_option maxHeartbeats 1000000 in
theorem slices_Max_int_int.calls (A0 : Option Addr) (c0 : Nat) (l0 : List Int) (r : Int) (w : World) (hr0 : Kd.C (Kd.int .i64) w A0 l0.length l0) (hc0 : l0.length ≤ c0) (h : slices_Max_int_int.f l0 = some r) :
    Calls Try.prog 45 #[.slice A0 l0.length c0] w fun e w' => e = .returned (.int .i64 r) ∧ Below w.heap.size w w' := by
  unfold slices_Max_int_int.f at h
  by_cases hl : l0.length = 0
  · rw [if_pos hl] at h; cases h
  rw [if_neg hl] at h
  obtain rfl := Option.some.inj h
  obtain ⟨n, hn⟩ : ∃ n, l0.length = n + 1 := ⟨l0.length - 1, by omega⟩
  have HA := Aside0.mk hr0
  have HN := Aside0.mk hn
  obtain ⟨ad, hA, hz0⟩ := Kd.at_int hr0 0 (by omega) (by omega)
  subst hA
  replace hz0 : w.cell? ad = some (.int .i64 (mxl l0 0)) := hz0
  have d0 : decide (l0.length < 1) = false := decide_eq_false (by omega)
  have d1 : decide ((l0.length : Int) < 1) = false := decide_eq_false (by omega)
  have p0 : 0 < l0.length := by omega
  have HL := Aside0.mk hr0.2.1
  clear hr0 hl hn h
  go_enter Try.func45, Try.ntmps45
  go_wp2_with fail
  clear d0 d1 hz0
  go_loop [3, 4] (fun m i => ∃ k : Nat, k ≤ n ∧ i = .int .i64 ((k + 1 : Nat) : Int) ∧ m = .int .i64 (mxl l0 k)) (fun _ i => ((n : Int) + 1 - intOf i).toNat)
  case atStart => exact ⟨0, by omega, rfl, rfl⟩
  case round =>
    obtain ⟨k, hk, rfl, rfl⟩ := hrel
    by_cases hlt : k < n
    · have c1 : decide ((k : Int) + 1 < (l0.length : Int)) = true := decide_eq_true (by have := HN.out; omega)
      have c2 : decide (k + 1 < l0.length) = true := decide_eq_true (by have := HN.out; omega)
      obtain ⟨ad2, hA2, hz⟩ := Kd.at_int HA.out ((k + 1 : Nat) : Int) (by omega) (by have := HN.out; omega)
      injection hA2 with hA2
      subst hA2
      rw [Int.toNat_natCast] at hz
      replace hz : w.cell? ⟨ad.block, ad.off + (k + 1), none⟩ = some (.int .i64 (rd l0 ((k + 1 : Nat) : Int))) := hz
      have HS : Aside0 (mxl l0 (k + 1) = if mxl l0 k < rd l0 ((k + 1 : Nat) : Int) then rd l0 ((k + 1 : Nat) : Int) else mxl l0 k) := ⟨rfl⟩
      have hb := HL.out
      have q : k + 1 < l0.length := by have := HN.out; omega
      obtain ⟨a, ha⟩ : ∃ a, mxl l0 k = a := ⟨_, rfl⟩
      obtain ⟨b, hb2⟩ : ∃ b, rd l0 ((k + 1 : Nat) : Int) = b := ⟨_, rfl⟩
      rw [ha, hb2] at HS
      rw [hb2] at hz
      rw [ha]
      clear ha hb2
      go_wp2_with fail
      exact ⟨⟨k + 1, by omega, by simp, by rw [HS.out]⟩, by simp [intOf]; omega⟩
    · obtain rfl : k = n := by omega
      have c1 : decide ((k : Int) + 1 < (l0.length : Int)) = false := decide_eq_false (by have := HN.out; omega)
      have c2 : decide (k + 1 < l0.length) = false := decide_eq_false (by have := HN.out; omega)
      have HE : Aside0 (l0.length - 1 = k) := ⟨by have := HN.out; omega⟩
      clear hlt
      go_wp2
      go_ret
      exact ⟨by rw [HE.out]; rfl, Below.refl _ _⟩
end Go.Proofs.Ytbaapakkdnhcmaa.PWe
namespace Go.Proofs.Ytbaapakkdnhcmaa.PWe
open Go.RowKit Go.Proofs.YtbaapakkdnhcmaaW.PrintWords Go.Proofs.YtbaapakkdnhcmaaW.PrintLast Go.Proofs.YtbaapakkdnhcmaaW.PrintMore
set_option linter.unusedVariables false
set_option linter.unusedSimpArgs false

theorem wr {x : Int} (h0 : -9223372036854775808 ≤ x) (h1 : x < 9223372036854775808) : wrap64 x = x := by unfold wrap64; omega
theorem up {i : Nat} (h : i < 9000000000000000000) : wrap64 ((i : Int) + 1) = ((i + 1 : Nat) : Int) := by unfold wrap64; omega
theorem rd_at {l : List Int} {i : Nat} (h : i < l.length) : rd l (i : Int) = l[i] := by
  unfold rd
  rw [Int.toNat_natCast, List.getD_eq_getElem?_getD, List.getElem?_eq_getElem h]; rfl
theorem rd76 {l : List S76} {i : Nat} (h : i < l.length) : rd_T76 l (i : Int) = l[i] := by
  unfold rd_T76
  rw [Int.toNat_natCast, List.getD_eq_getElem?_getD, List.getElem?_eq_getElem h]; rfl
theorem rd47 {l : List S47} {i : Nat} (h : i < l.length) : rd_T47 l (i : Int) = l[i] := by
  unfold rd_T47
  rw [Int.toNat_natCast, List.getD_eq_getElem?_getD, List.getElem?_eq_getElem h]; rfl

/-! ### from -/
def fromL (many cand md : Int) : List Int := (List.range many.toNat).map fun (k : Nat) => if (k : Int) = cand then md else -1 - (k : Int)
theorem fromL_len (many cand md : Int) : (fromL many cand md).length = many.toNat := by simp [fromL]
theorem from_l0 (cand md : Int) : ∀ (d k i : Nat) (x : List Int), i + d = x.length → d < k → x.length ≤ 1000 → walk_from.l0 k cand md x (x.length : Int) (i : Int) = some (x.take i ++ (fromL (x.length : Int) cand md).drop i)
  | 0, k + 1, i, x, hi, hk, hx => by
    rw [walk_from.l0, if_neg (by omega)]
    rw [List.take_of_length_le (by omega), List.drop_eq_nil_of_le (by rw [fromL_len]; omega), List.append_nil]
  | d + 1, k + 1, i, x, hi, hk, hx => by
    have hix : i < x.length := by omega
    rw [walk_from.l0, if_pos (by omega), if_pos (by omega), if_pos (by omega)]
    rw [up (by omega), Int.toNat_natCast, wr (x := -1 - (i : Int)) (by omega) (by omega)]
    have key : ∀ v : Int, (if (i : Int) = cand then md else -1 - (i : Int)) = v → walk_from.l0 k cand md (x.set i v) (x.length : Int) ((i + 1 : Nat) : Int) = some (x.take i ++ (fromL (x.length : Int) cand md).drop i) := by
      intro v hv
      have h := from_l0 cand md d k (i + 1) (x.set i v) (by simp; omega) (by omega) (by simpa using hx)
      rw [List.length_set] at h
      rw [h]
      congr 1
      have h2 : (fromL (x.length : Int) cand md)[i]'(by rw [fromL_len]; omega) = v := by simp only [fromL, List.getElem_map, List.getElem_range]; exact hv
      rw [List.drop_eq_getElem_cons (i := i) (by rw [fromL_len]; omega), h2]
      have h3 : (x.set i v).take (i + 1) = x.take i ++ [v] := by
        rw [List.take_succ_eq_append_getElem (by simpa using hix)]
        rw [List.take_set, List.set_eq_of_length_le (by simp; omega), List.getElem_set_self]
      rw [h3, List.append_assoc]
      rfl
    show (if (i : Int) = cand then _ else _) = _
    split
    · rename_i h
      rw [List.set_set]
      exact key md (if_pos h)
    · rename_i h
      exact key _ (if_neg h)
theorem from_f {k : Nat} {many : Int} (cand md : Int) (h0 : 0 ≤ many) (h1 : many ≤ 255) (hk : many < k) : walk_from.f k many cand md = some (fromL many cand md) := by
  rw [walk_from.f, if_pos h0, if_pos (by omega)]
  show walk_from.l0 _ _ _ _ _ _ = _
  have hl : (List.replicate many.toNat (0 : Int)).length = many.toNat := by simp
  have h := from_l0 cand md many.toNat k 0 (List.replicate many.toNat 0) (by omega) (by omega) (by omega)
  rw [show ((0 : Nat) : Int) = 0 from rfl] at h
  rw [h, hl, Int.toNat_of_nonneg h0]
  simp

/-! ### Where one stands first -/
def idxL (a : Int) : List Int → Int → Int
  | [], _ => -1
  | x :: xs, i => if a = x then i else idxL a xs (i + 1)
theorem index_l0 (a : Int) (l : List Int) : ∀ (d k i : Nat), i + d = l.length → d < k → l.length ≤ 1000000 → slices_Index_int_int.l0 k l a (l.length : Int) (i : Int) = some (idxL a (l.drop i) (i : Int))
  | 0, k + 1, i, hi, hk, hl => by
    rw [slices_Index_int_int.l0, if_neg (by omega), List.drop_eq_nil_of_le (by omega)]; rfl
  | d + 1, k + 1, i, hi, hk, hl => by
    have hil : i < l.length := by omega
    rw [slices_Index_int_int.l0, if_pos (by omega), if_pos (by omega), if_pos (by omega), rd_at hil, up (by omega), index_l0 a l d k (i + 1) (by omega) (by omega) hl, List.drop_eq_getElem_cons hil, idxL]
    split <;> simp
theorem index_f {k : Nat} (l : List Int) (a : Int) (hk : l.length < k) (hl : l.length ≤ 1000000) : slices_Index_int_int.f k l a = some (idxL a l 0) := by
  rw [slices_Index_int_int.f, show (0 : Int) = ((0 : Nat) : Int) from rfl, index_l0 a l l.length k 0 (by omega) hk hl]; rfl
theorem idxL_neg {a : Int} : ∀ (l : List Int) (i : Int), (∀ x ∈ l, x ≠ a) → idxL a l i = -1
  | [], _, _ => rfl
  | x :: xs, i, h => by
    rw [idxL, if_neg (fun e => h x (by simp) e.symm)]
    exact idxL_neg xs _ fun y hy => h y (by simp [hy])
theorem idxL_ge {a : Int} : ∀ (l : List Int) (i : Int), 0 ≤ i → -1 ≤ idxL a l i
  | [], _, _ => by show (-1 : Int) ≤ -1; omega
  | x :: xs, i, h => by
    rw [idxL]
    split
    · omega
    · exact idxL_ge xs _ (by omega)
theorem contains_f {k : Nat} (l : List Int) (a : Int) (hk : l.length < k) (hl : l.length ≤ 1000000) : slices_Contains_int_int.f k l a = some (decide (idxL a l 0 ≥ 0)) := by
  rw [slices_Contains_int_int.f, index_f l a hk hl]; rfl

/-! ### Bits -/
def manyOf (x : S76) : Int := if x.f4.length ≤ 1 then 1 else if x.f4.length ≤ 4 then (x.f4.length : Int) else 4
def wordsOf (x : S76) : Int := if x.f2 < 0 then 0 else if x.f2 ≤ 8 then x.f2 else 8
def bitsOf (x : S76) : Int := if x.f0 = 0 then 10 + 8 * wordsOf x + 4 * (manyOf x - 1) else if x.f0 = 1 then (if x.f1 < 0 then 0 else if x.f1 ≤ 1000 then x.f1 else 1000) else if x.f0 = 2 then 6 else 0
theorem bitsOf_bd (x : S76) : 0 ≤ bitsOf x ∧ bitsOf x ≤ 1000 := by
  unfold bitsOf wordsOf manyOf
  repeat' split
  all_goals omega
theorem cut_f (a b : Int) : plan_cut.f a b = some (mx 0 (mn a b)) := rfl
theorem many_f (a b c d : Int) (f t : List Int) : plan_Window_many.f a b c d f t = some (manyOf ⟨a, b, c, d, f, t⟩) := by
  unfold plan_Window_many.f
  rw [cut_f]
  show some _ = some _
  congr 1
  unfold mx mn manyOf
  dsimp only
  repeat' split
  all_goals omega
theorem bits_f (a b c d : Int) (f t : List Int) : plan_Window_bits.f a b c d f t = some (bitsOf ⟨a, b, c, d, f, t⟩) := by
  unfold plan_Window_bits.f
  rw [cut_f, cut_f, many_f]
  have hm : 1 ≤ manyOf ⟨a, b, c, d, f, t⟩ ∧ manyOf ⟨a, b, c, d, f, t⟩ ≤ 4 := by unfold manyOf; repeat' split <;> simp_all <;> omega
  have hw : mx 0 (mn c 8) = wordsOf ⟨a, b, c, d, f, t⟩ := by unfold mx mn wordsOf; repeat' split <;> simp_all <;> omega
  have hw2 : 0 ≤ wordsOf ⟨a, b, c, d, f, t⟩ ∧ wordsOf ⟨a, b, c, d, f, t⟩ ≤ 8 := by unfold wordsOf; repeat' split <;> simp_all <;> omega
  unfold bitsOf
  by_cases h0 : a = 0
  · rw [if_pos h0, if_pos h0]
    show some _ = some _
    rw [hw]
    congr 1
    rw [wr (x := manyOf _ - 1) (by omega) (by omega), wr (x := 8 * _) (by omega) (by omega), wr (x := 10 + _) (by omega) (by omega), wr (x := 4 * _) (by omega) (by omega), wr (by omega) (by omega)]
  rw [if_neg h0, if_neg h0]
  by_cases h1 : a = 1
  · rw [if_pos h1, if_pos h1]
    show some _ = some _
    congr 1
    unfold mx mn
    dsimp only
    repeat' split
    all_goals omega
  rw [if_neg h1, if_neg h1]
  split <;> simp_all
theorem ticks_f (a b c d : Int) (f t : List Int) : plan_Ticks.f a b c d f t = some (20 * bitsOf ⟨a, b, c, d, f, t⟩) := by
  unfold plan_Ticks.f
  rw [bits_f]
  show some _ = some _
  have := bitsOf_bd ⟨a, b, c, d, f, t⟩
  rw [wr (by omega) (by omega), Int.mul_comm]

/-! ### A view's slots -/
def slotOf (at_ md : Int) (x : S76) : S47 := if x.f0 = 0 then ⟨x.f0, at_, 20 * bitsOf x, wordsOf x, x.f3, manyOf x, idxL md (x.f4.take 4) 0, decide (idxL md x.f5 0 ≥ 0)⟩ else ⟨x.f0, at_, 20 * bitsOf x, 0, 0, 0, -1, false⟩
theorem slot_f {k : Nat} (x : S76) (at_ md : Int) (h4 : x.f4.length ≤ 100) (h5 : x.f5.length < k) (h5' : x.f5.length ≤ 100) (hk : 4 < k) : plan_Window_slot.f k x.f0 x.f1 x.f2 x.f3 x.f4 x.f5 at_ md = some ((slotOf at_ md x).f0, (slotOf at_ md x).f1, (slotOf at_ md x).f2, (slotOf at_ md x).f3, (slotOf at_ md x).f4, (slotOf at_ md x).f5, (slotOf at_ md x).f6, (slotOf at_ md x).f7) := by
  unfold plan_Window_slot.f
  rw [ticks_f, cut_f, many_f]
  show (if x.f0 = 0 then _ else _) = _
  have hn : ((mn (x.f4.length : Int) 4).toNat) = min x.f4.length 4 := by unfold mn; split <;> omega
  have ht : x.f4.take (mn (x.f4.length : Int) 4).toNat = x.f4.take 4 := by
    rw [hn]
    by_cases h : x.f4.length ≤ 4
    · rw [Nat.min_eq_left h, List.take_of_length_le (Nat.le_refl _), List.take_of_length_le h]
    · rw [Nat.min_eq_right (by omega)]
  unfold slotOf
  split
  · show (if 0 ≤ mn (x.f4.length : Int) 4 then _ else _) = _
    rw [if_pos (by unfold mn; split <;> omega), if_pos (by unfold mn; split <;> omega), ht, index_f _ _ (by simp; omega) (by simp; omega)]
    show (slices_Contains_int_int.f k x.f5 md).bind _ = _
    rw [contains_f _ _ h5 (by omega)]
    show some _ = some _
    have hw : mx 0 (mn x.f2 8) = wordsOf x := by unfold mx mn wordsOf; repeat' split <;> omega
    rw [hw]
  · rfl
def viewL (md : Int) : Int → List S76 → List S47
  | at_, [] => [⟨4, at_, 120, 0, 0, 0, -1, false⟩]
  | at_, x :: xs => if x.f0 < 0 ∨ x.f0 > 2 then viewL md at_ xs else slotOf at_ md x :: viewL md (at_ + 20 * bitsOf x) xs
end Go.Proofs.Ytbaapakkdnhcmaa.PWe
namespace Go.Proofs.Ytbaapakkdnhcmaa.PWe
open Go.RowKit Go.Proofs.YtbaapakkdnhcmaaW.PrintWords Go.Proofs.YtbaapakkdnhcmaaW.PrintLast Go.Proofs.YtbaapakkdnhcmaaW.PrintMore
set_option linter.unusedVariables false
set_option linter.unusedSimpArgs false

/-- Lists of windows that may be looked at. -/
def Fit (l : List S76) : Prop := l.length ≤ 1000 ∧ ∀ x ∈ l, x.f4.length ≤ 100 ∧ x.f5.length ≤ 100
def ticksL : List S76 → Int
  | [] => 0
  | x :: xs => 20 * bitsOf x + ticksL xs
theorem ticksL_bd : ∀ l : List S76, 0 ≤ ticksL l ∧ ticksL l ≤ 20000 * l.length
  | [] => by show (0 : Int) ≤ 0 ∧ (0 : Int) ≤ _; simp
  | x :: xs => by
    have := bitsOf_bd x
    have := ticksL_bd xs
    rw [ticksL, List.length_cons]
    omega
/-- The spans, in bits: a: where the next slot starts; b: where the last pulse did. -/
def spansW : Int → Int → List S76 → List Int
  | a, b, [] => [a + 6 + 3 - b]
  | a, b, x :: xs => if x.f0 < 0 ∨ x.f0 > 2 then spansW a b xs else if x.f0 = 2 then (a + 2 - b) :: spansW (a + bitsOf x) (a + 2) xs else spansW (a + bitsOf x) b xs
theorem tdiv20 {d : Int} (h0 : -1000000000000 ≤ d) (h1 : d ≤ 1000000000000) : wrap64 (Int.tdiv (wrap64 (20 * d)) 20) = d := by
  rw [wr (x := 20 * d) (by omega) (by omega), Int.mul_tdiv_cancel_left _ (by decide), wr (by omega) (by omega)]
theorem viewL_len (md : Int) : ∀ (l : List S76) (a : Int), 1 ≤ (viewL md a l).length ∧ (viewL md a l).length ≤ l.length + 1
  | [], a => by simp [viewL]
  | x :: xs, a => by
    rw [viewL]
    have h1 := viewL_len md xs a
    have h2 := viewL_len md xs (a + 20 * bitsOf x)
    split <;> simp only [List.length_cons] <;> omega
theorem is_f {v : Int} (h0 : 0 ≤ v) (h1 : v < 2) : plan_is.f v = some true := by rw [plan_is.f, if_pos h0, decide_eq_true h1]
theorem start_f {v : Int} (h0 : 0 ≤ v) (h1 : v < 2) : plan_start.f v = some (200 + 40 * v) := by
  rw [plan_start.f, wr (x := 2 * v) (by omega) (by omega), wr (x := 10 + _) (by omega) (by omega), wr (by omega) (by omega)]
  congr 1
  omega
theorem pulse_f {k : Nat} (s : S47) (h : 0 < k) : plan_Slot_Pulse.f k s.f0 s.f1 s.f2 s.f3 s.f4 s.f5 s.f6 s.f7 = some (if s.f0 = 0 then (wrap64 (s.f2 - 80), wrap64 (s.f2 - 40)) else if s.f0 = 2 ∨ s.f0 = 4 then (40, 80) else if s.f0 = 3 then (60, wrap64 (s.f2 - 60)) else (0, 0)) := by
  obtain ⟨k, rfl⟩ : ∃ m, k = m + 1 := ⟨k - 1, by omega⟩
  unfold plan_Slot_Pulse.f
  by_cases h0 : s.f0 = 0
  · rw [if_pos h0, if_pos h0]
  rw [if_neg h0, if_neg h0]
  by_cases h2 : s.f0 = 2
  · rw [if_pos h2, if_pos (.inl h2), plan_Slot_Pulse.j0, if_pos (by simp [h2])]
  rw [if_neg h2, plan_Slot_Pulse.j0]
  by_cases h4 : s.f0 = 4
  · rw [if_pos (by simp [h4]), if_pos (.inr h4)]
  rw [if_neg (by simp [h4]), if_neg (show ¬ (s.f0 = 2 ∨ s.f0 = 4) by omega)]
  split <;> rfl
theorem pulse_short {k : Nat} {s : S47} (hs : s.f0 = 2) (h : 0 < k) : plan_Slot_Pulse.f k s.f0 s.f1 s.f2 s.f3 s.f4 s.f5 s.f6 s.f7 = some (40, 80) := by
  rw [pulse_f s h, if_neg (by omega), if_pos (.inl hs)]
end Go.Proofs.Ytbaapakkdnhcmaa.PWe
namespace Go.Proofs.Ytbaapakkdnhcmaa.PWe
open Go.RowKit Go.Proofs.YtbaapakkdnhcmaaW.PrintWords Go.Proofs.YtbaapakkdnhcmaaW.PrintLast Go.Proofs.YtbaapakkdnhcmaaW.PrintMore
set_option linter.unusedVariables false
set_option linter.unusedSimpArgs false

def Bytes (b : List Int) : Prop := ∀ x ∈ b, 0 ≤ x ∧ x ≤ 255
theorem Bytes.at {b : List Int} (h : Bytes b) (i : Int) : 0 ≤ rd b i ∧ rd b i ≤ 255 := by
  unfold rd
  rw [List.getD_eq_getElem?_getD]
  cases hq : b[i.toNat]? with
  | none => decide
  | some x => exact h x (List.mem_of_getElem? hq)
theorem or256 (a b : Int) (ha : 0 ≤ a ∧ a ≤ 255) (hb : 0 ≤ b ∧ b ≤ 255) : bits BinOp.or IntKind.i64 (a * 256) b = 256 * a + b := by
  obtain ⟨m, rfl⟩ := Int.eq_ofNat_of_zero_le ha.1
  obtain ⟨n, rfl⟩ := Int.eq_ofNat_of_zero_le hb.1
  have key : (BitVec.ofInt 64 ((m : Int) * 256) ||| BitVec.ofInt 64 (n : Int)).toNat = 256 * m + n := by
    rw [BitVec.toNat_or, BitVec.toNat_ofInt, BitVec.toNat_ofInt]
    have h1 : ((m : Int) * 256 % ((2 ^ 64 : Nat) : Int)).toNat = 2 ^ 8 * m := by omega
    have h2 : ((n : Int) % ((2 ^ 64 : Nat) : Int)).toNat = n := by omega
    rw [h1, h2, ← Nat.two_pow_add_eq_or_of_lt (by omega)]
  show IntKind.i64.wrap ((BitVec.ofInt 64 ((m : Int) * 256) ||| BitVec.ofInt 64 (n : Int)).toNat : Nat) = _
  rw [key, IntKind.wrap_i64]
  omega
/-- May a command be? -/
def rightP (op a w c m bi t : Int) : Bool :=
  if op < 0 ∨ op > 8 then false else if (op = 1 ∨ op = 2 ∨ op = 3) ∧ (w < 1 ∨ w > 8 ∨ m < 1 ∨ m > 4) then false else
  if (op = 1 ∨ op = 2) ∧ (a < 0 ∨ a > 64 - w) then false else if op = 1 ∧ (c < 0 ∨ c ≥ m) then false else if op = 4 ∧ (bi < 1 ∨ bi > 100) then false else decide ((op ≠ 6 ∧ op ≠ 8) ∨ 0 ≤ t ∧ t ≤ 1023)
theorem within_f (a b c : Int) : cmd_within.f a b c = some (decide (b ≤ a ∧ a ≤ c)) := by
  unfold cmd_within.f
  by_cases h : a ≥ b
  · rw [if_pos h]; congr 1; simp [h]
  · rw [if_neg h]; congr 1; simp; omega
theorem rightP_iff (op a w c m bi t : Int) : rightP op a w c m bi t = true ↔ (0 ≤ op ∧ op ≤ 8) ∧ ((op = 1 ∨ op = 2 ∨ op = 3) → (1 ≤ w ∧ w ≤ 8) ∧ 1 ≤ m ∧ m ≤ 4) ∧ ((op = 1 ∨ op = 2) → 0 ≤ a ∧ a ≤ 64 - w) ∧ (op = 1 → 0 ≤ c ∧ c < m) ∧ (op = 4 → 1 ≤ bi ∧ bi ≤ 100) ∧ ((op = 6 ∨ op = 8) → 0 ≤ t ∧ t ≤ 1023) := by
  unfold rightP
  repeat' split
  all_goals simp only [Bool.false_eq_true, false_iff, decide_eq_true_eq]
  all_goals omega
theorem some_iff {a b : Bool} (h : a = true ↔ b = true) : (some a : Option Bool) = some b := congrArg some (Bool.eq_iff_iff.2 h)
theorem message_f {k : Nat} (hk : 0 < k) (op a w c m bi t : Int) (hop : op = 1 ∨ op = 2 ∨ op = 3) (hm : -1000 ≤ m ∧ m ≤ 1000) (hw : -1000 ≤ w ∧ w ≤ 1000) : cmd_Command_message.f k op a w c m bi t = some (rightP op a w c m bi t) := by
  obtain ⟨k, rfl⟩ : ∃ q, k = q + 1 := ⟨k - 1, by omega⟩
  unfold cmd_Command_message.f
  rw [within_f, within_f]
  by_cases h1 : 1 ≤ w ∧ w ≤ 8
  · by_cases h2 : 1 ≤ m ∧ m ≤ 4
    · rw [decide_eq_true h1, decide_eq_true h2]
      show cmd_Command_message.j0 (k + 1) false op a w c m bi t = _
      rw [cmd_Command_message.j0, if_neg (by decide), within_f, within_f, wr (by omega) (by omega), wr (by omega) (by omega)]
      by_cases ha : 0 ≤ a ∧ a ≤ 64 - w
      all_goals by_cases hc : 0 ≤ c ∧ c ≤ m - 1
      all_goals rcases hop with rfl | rfl | rfl
      all_goals simp only [ha, hc, and_self, decide_true, decide_false, Option.bind_some, if_true, if_false, Bool.false_eq_true, Int.reduceEq]
      all_goals refine some_iff ?_
      all_goals rw [rightP_iff]
      all_goals simp
      all_goals omega
    · rw [decide_eq_true h1, decide_eq_false h2]
      show cmd_Command_message.j0 (k + 1) true op a w c m bi t = _
      rw [cmd_Command_message.j0, if_pos rfl]
      refine some_iff ?_
      rw [rightP_iff]
      simp only [Bool.false_eq_true, false_iff]
      omega
  · rw [decide_eq_false h1]
    show cmd_Command_message.j0 (k + 1) true op a w c m bi t = _
    rw [cmd_Command_message.j0, if_pos rfl]
    refine some_iff ?_
    rw [rightP_iff]
    simp only [Bool.false_eq_true, false_iff]
    omega
theorem right_f {k : Nat} (hk : 3 < k) (op a w c m bi t : Int) (h0 : 0 ≤ op) (h8 : op ≤ 8) (hm : -1000 ≤ m ∧ m ≤ 1000) (hw : -1000 ≤ w ∧ w ≤ 1000) : cmd_Command_Right.f k op a w c m bi t = some (rightP op a w c m bi t) := by
  obtain ⟨k, rfl⟩ : ∃ q, k = q + 3 := ⟨k - 3, by omega⟩
  unfold cmd_Command_Right.f
  have hms := fun h => message_f (k := k + 1) (by omega) op a w c m bi t h hm hw
  rcases (by omega : op = 0 ∨ op = 1 ∨ op = 2 ∨ op = 3 ∨ op = 4 ∨ op = 5 ∨ op = 6 ∨ op = 7 ∨ op = 8) with rfl | rfl | rfl | rfl | rfl | rfl | rfl | rfl | rfl
  all_goals simp only [cmd_Command_Right.j0, cmd_Command_Right.j1, within_f, Int.reduceEq, if_true, if_false, beq_self_eq_true, Int.reduceBEq, Bool.false_eq_true, Option.bind_some]
  · exact some_iff (by rw [rightP_iff]; simp)
  · rw [hms (by decide)]; rfl
  · rw [hms (by decide)]; rfl
  · rw [hms (by decide)]; rfl
  · exact some_iff (by rw [rightP_iff]; simp)
  · exact some_iff (by rw [rightP_iff]; simp)
  · exact some_iff (by rw [rightP_iff]; simp)
  · exact some_iff (by rw [rightP_iff]; simp)
  · exact some_iff (by rw [rightP_iff]; simp)
/-- How many bytes a command has. -/
def longP (op : Int) : Int := if op = 1 then 5 else if op = 2 then 4 else if op = 3 then 3 else if op = 4 then 2 else if op = 6 then 3 else if op = 8 then 3 else 1
def cmdP (b : List Int) (at_ : Int) (op : Int) : List Int :=
  if op = 1 then [op, rd b (at_ + 1), rd b (at_ + 2), rd b (at_ + 3), rd b (at_ + 4), 0, 0] else if op = 2 then [op, rd b (at_ + 1), rd b (at_ + 2), 0, rd b (at_ + 3), 0, 0] else
  if op = 3 then [op, 0, rd b (at_ + 1), 0, rd b (at_ + 2), 0, 0] else if op = 4 then [op, 0, 0, 0, 0, rd b (at_ + 1), 0] else
  if op = 6 ∨ op = 8 then [op, 0, 0, 0, 0, 0, 256 * rd b (at_ + 1) + rd b (at_ + 2)] else [op, 0, 0, 0, 0, 0, 0]
def rightL (C : List Int) : Bool := rightP (C.getD 0 0) (C.getD 1 0) (C.getD 2 0) (C.getD 3 0) (C.getD 4 0) (C.getD 5 0) (C.getD 6 0)
def readP (b : List Int) (at_ : Int) : List Int × Int × Int :=
  if at_ < 0 ∨ at_ > (b.length : Int) then (zero7, 0, 2) else if at_ = (b.length : Int) then (zero7, 0, 10) else
  if rd b at_ > 8 then (zero7, 0, 11) else if longP (rd b at_) > (b.length : Int) - at_ then (zero7, 0, 10) else
  if rightL (cmdP b at_ (rd b at_)) = true then (cmdP b at_ (rd b at_), at_ + longP (rd b at_), 0) else (zero7, 0, 11)
theorem rd_drop (b : List Int) (n j : Nat) : rd (b.drop n) (j : Int) = rd b ((n + j : Nat) : Int) := by
  unfold rd
  rw [Int.toNat_natCast, Int.toNat_natCast, List.getD_eq_getElem?_getD, List.getD_eq_getElem?_getD, List.getElem?_drop]
theorem readF_is {b : List Int} (hb : Bytes b) (hl : b.length ≤ 100000) (at_ : Int) : readF 16 b at_ = some (readP b at_) := by
  unfold readF readP
  by_cases h0 : at_ < 0
  · rw [if_pos h0, if_pos (.inl h0)]
  rw [if_neg h0]
  by_cases h1 : at_ > (b.length : Int)
  · rw [if_pos h1, if_pos (.inr h1)]
  rw [if_neg h1, if_neg (show ¬ (at_ < 0 ∨ at_ > (b.length : Int)) by omega)]
  by_cases h2 : at_ = (b.length : Int)
  · rw [if_pos h2, if_pos h2]
  rw [if_neg h2, if_neg h2]
  have hop := hb.at at_
  rw [wr (x := rd b at_) (by omega) (by omega)]
  generalize hO : rd b at_ = op at *
  by_cases h8 : op > 8
  · rw [if_pos h8, if_pos h8]
  rw [if_neg h8, if_neg h8]
  have hlen : ((b.drop (at_ + 1).toNat).length : Int) = b.length - at_ - 1 := by rw [List.length_drop]; omega
  have hneed : needI op = longP op - 1 := by
    rcases (by omega : op = 0 ∨ op = 1 ∨ op = 2 ∨ op = 3 ∨ op = 4 ∨ op = 5 ∨ op = 6 ∨ op = 7 ∨ op = 8) with h | h | h | h | h | h | h | h | h
    all_goals (subst h; decide)
  rw [hlen, hneed]
  have hlp : 1 ≤ longP op ∧ longP op ≤ 5 := by unfold longP; repeat' split <;> omega
  by_cases h3 : (b.length : Int) - at_ - 1 < longP op - 1
  · rw [if_pos h3, if_pos (by omega)]
  rw [if_neg h3, if_neg (by omega)]
  have hr : ∀ j : Nat, rd (b.drop (at_ + 1).toNat) (j : Int) = rd b (at_ + 1 + j) := by
    intro j
    rw [rd_drop]
    congr 1
    omega
  have hby := fun j : Nat => hb.at (at_ + 1 + j)
  have hw := fun j : Nat => wr (x := rd b (at_ + 1 + j)) (by have := hby j; omega) (by have := hby j; omega)
  have hC : cmdC (b.drop (at_ + 1).toNat) op = cmdP b at_ op := by
    have r0 : wrap64 (rd (b.drop (at_ + 1).toNat) ((0 : Nat) : Int)) = rd b (at_ + 1) := by rw [hr, hw, show at_ + 1 + ((0 : Nat) : Int) = at_ + 1 by omega]
    have r1 : wrap64 (rd (b.drop (at_ + 1).toNat) ((1 : Nat) : Int)) = rd b (at_ + 2) := by rw [hr, hw, show at_ + 1 + ((1 : Nat) : Int) = at_ + 2 by omega]
    have r2 : wrap64 (rd (b.drop (at_ + 1).toNat) ((2 : Nat) : Int)) = rd b (at_ + 3) := by rw [hr, hw, show at_ + 1 + ((2 : Nat) : Int) = at_ + 3 by omega]
    have r3 : wrap64 (rd (b.drop (at_ + 1).toNat) ((3 : Nat) : Int)) = rd b (at_ + 4) := by rw [hr, hw, show at_ + 1 + ((3 : Nat) : Int) = at_ + 4 by omega]
    have hat : atV (rd (b.drop (at_ + 1).toNat) 0) (rd (b.drop (at_ + 1).toNat) 1) = 256 * rd b (at_ + 1) + rd b (at_ + 2) := by
      unfold atV
      show bits BinOp.or IntKind.i64 (wrap64 (wrap64 (rd (b.drop (at_ + 1).toNat) ((0 : Nat) : Int)) * 256)) (wrap64 (rd (b.drop (at_ + 1).toNat) ((1 : Nat) : Int))) = _
      rw [r0, r1]
      have b0 := hb.at (at_ + 1)
      rw [wr (by omega) (by omega), or256 _ _ b0 (hb.at (at_ + 2))]
    unfold cmdC cmdP
    rcases (by omega : op = 0 ∨ op = 1 ∨ op = 2 ∨ op = 3 ∨ op = 4 ∨ op = 5 ∨ op = 6 ∨ op = 7 ∨ op = 8) with h | h | h | h | h | h | h | h | h
    all_goals subst h
    · rfl
    · show [(1 : Int), wrap64 (rd _ ((0 : Nat) : Int)), wrap64 (rd _ ((1 : Nat) : Int)), wrap64 (rd _ ((2 : Nat) : Int)), wrap64 (rd _ ((3 : Nat) : Int)), 0, 0] = _
      rw [r0, r1, r2, r3]; rfl
    · show [(2 : Int), wrap64 (rd _ ((0 : Nat) : Int)), wrap64 (rd _ ((1 : Nat) : Int)), 0, wrap64 (rd _ ((2 : Nat) : Int)), 0, 0] = _
      rw [r0, r1, r2]; rfl
    · show [(3 : Int), 0, wrap64 (rd _ ((0 : Nat) : Int)), 0, wrap64 (rd _ ((1 : Nat) : Int)), 0, 0] = _
      rw [r0, r1]; rfl
    · show [(4 : Int), 0, 0, 0, 0, wrap64 (rd _ ((0 : Nat) : Int)), 0] = _
      rw [r0]; rfl
    · rfl
    · rw [if_pos (show goesF 6 = true from rfl), hat]; rfl
    · rfl
    · rw [if_pos (show goesF 8 = true from rfl), hat]; rfl
  rw [hC]
  have hCb : 0 ≤ (cmdP b at_ op).getD 0 0 ∧ (cmdP b at_ op).getD 0 0 ≤ 8 ∧ (0 ≤ (cmdP b at_ op).getD 4 0 ∧ (cmdP b at_ op).getD 4 0 ≤ 255) ∧ (0 ≤ (cmdP b at_ op).getD 2 0 ∧ (cmdP b at_ op).getD 2 0 ≤ 255) := by
    have b1 := hb.at (at_ + 1)
    have b2 := hb.at (at_ + 2)
    have b3 := hb.at (at_ + 3)
    have b4 := hb.at (at_ + 4)
    unfold cmdP
    repeat' split
    all_goals simp
    all_goals omega
  rw [right_f (by decide) _ _ _ _ _ _ _ hCb.1 hCb.2.1 (by omega) (by omega)]
  show (if rightL (cmdP b at_ op) = true then _ else _) = _
  rw [wr (x := at_ + 1) (by omega) (by omega), wr (x := at_ + 1 + (longP op - 1)) (by omega) (by omega), show at_ + 1 + (longP op - 1) = at_ + longP op by omega]
  split <;> rfl
end Go.Proofs.Ytbaapakkdnhcmaa.PWe
namespace Go.Proofs.Ytbaapakkdnhcmaa.PWe
open Go.RowKit Go.Proofs.YtbaapakkdnhcmaaW.PrintWords Go.Proofs.YtbaapakkdnhcmaaW.PrintLast Go.Proofs.YtbaapakkdnhcmaaW.PrintMore
set_option linter.unusedVariables false
set_option linter.unusedSimpArgs false

/-- The window that a command is. -/
def windowP (md op a w c m bi : Int) : Option S76 :=
  if op = 4 then some ⟨1, bi, 0, 0, [], []⟩ else if op = 5 then some ⟨2, 0, 0, 0, [], []⟩ else if op = 1 then some ⟨0, 0, w, a, fromL m c md, []⟩ else
  if op = 2 then some ⟨0, 0, w, a, fromL m (-1) md, [md]⟩ else if op = 3 then some ⟨0, 0, w, a, fromL m (-1) md, []⟩ else none
def tup : Option S76 → Int × Int × Int × Int × List Int × List Int × Bool
  | some x => (x.f0, x.f1, x.f2, x.f3, x.f4, x.f5, true)
  | none => (0, 0, 0, 0, [], [], false)
theorem window_f (md op a w c m bi t : Int) (h0 : 0 ≤ m) (h1 : m ≤ 4) : walk_window.f 16 op a w c m bi t md = some (tup (windowP md op a w c m bi)) := by
  unfold walk_window.f
  rw [from_f _ _ h0 (by omega) (by omega), from_f _ _ h0 (by omega) (by omega)]
  simp only [Option.bind_some]
  unfold windowP
  repeat' split
  all_goals simp_all [tup]
/-- A command that is right, without what does not count. -/
def CmdOK (C : List Int) : Prop := ∃ op a w c m bi t, C = [op, a, w, c, m, bi, t] ∧ rightP op a w c m bi t = true ∧ (¬ (op = 1 ∨ op = 2 ∨ op = 3) → m = 0) ∧ (op = 3 → a = 0)
theorem cmd_ok {b : List Int} {at_ op : Int} (h : rightL (cmdP b at_ op) = true) : CmdOK (cmdP b at_ op) := by
  have key : ∀ a w c m bi t : Int, cmdP b at_ op = [op, a, w, c, m, bi, t] → (¬ (op = 1 ∨ op = 2 ∨ op = 3) → m = 0) → (op = 3 → a = 0) → CmdOK (cmdP b at_ op) := by
    intro a w c m bi t e hm ha
    rw [e] at h ⊢
    exact ⟨op, a, w, c, m, bi, t, rfl, h, hm, ha⟩
  clear h
  unfold cmdP at key ⊢
  repeat' split
  all_goals simp_all
theorem readP_ok {b : List Int} {at_ : Int} : ((readP b at_).2.2 = 0 ∧ CmdOK (readP b at_).1 ∧ 0 ≤ at_ ∧ at_ < (b.length : Int) ∧ (readP b at_).1 = cmdP b at_ (rd b at_) ∧ (readP b at_).2.1 = at_ + longP (rd b at_)) ∨ ((readP b at_).2.2 = 2 ∨ (readP b at_).2.2 = 10 ∨ (readP b at_).2.2 = 11) := by
  unfold readP
  repeat' split
  all_goals simp only [true_and, Int.reduceEq, false_and, or_true, true_or, or_false, false_or]
  all_goals first | trivial | skip
  rename_i h0 h1 h2 h3 h4
  exact ⟨cmd_ok h4, by omega, by omega, trivial⟩
def GoodW (md : Int) (x : S76) : Prop := (x.f0 = 0 ∧ (1 ≤ x.f2 ∧ x.f2 ≤ 8) ∧ (1 ≤ x.f4.length ∧ x.f4.length ≤ 4) ∧ x.f5.length ≤ 1 ∧ (x.f5 = [] ∨ idxL md (x.f4.take 4) 0 = -1)) ∨ (x.f0 = 1 ∧ x.f4 = [] ∧ x.f5 = []) ∨ (x.f0 = 2 ∧ x.f4 = [] ∧ x.f5 = [])
theorem fromL_none {m md : Int} (hmd : 0 ≤ md) : ∀ x ∈ fromL m (-1) md, x ≠ md := by
  intro x hx
  unfold fromL at hx
  obtain ⟨k, _, rfl⟩ := List.mem_map.1 hx
  rw [if_neg (by omega)]
  omega
theorem good_window {md op a w c m bi t : Int} {x : S76} (hmd : 0 ≤ md) (hr : rightP op a w c m bi t = true) (h : windowP md op a w c m bi = some x) : GoodW md x := by
  rw [rightP_iff] at hr
  unfold windowP at h
  unfold GoodW
  repeat' split at h
  all_goals first | cases h | skip
  all_goals simp only [fromL_len, List.length_singleton, List.length_nil]
  all_goals simp
  all_goals first | omega | skip
  all_goals refine ⟨by omega, by omega, ?_⟩
  · exact idxL_neg _ _ fun y hy => fromL_none hmd y (List.mem_of_mem_take hy)
theorem turnF_err (op tt at_ : Int) (back : List Int) : (turnF op tt at_ back).1 = 0 ∨ (turnF op tt at_ back).1 = 11 ∨ (turnF op tt at_ back).1 = 14 := by
  unfold turnF
  repeat' split
  all_goals simp
theorem win_ok {md : Int} (hmd : 0 ≤ md) {code : List Int} (hb : Bytes code) (hl : code.length ≤ 100000) : ∀ (n : Nat) (at_ : Int) (back : List Int) (out : List S76), (∀ x ∈ out, GoodW md x) → out.length ≤ 32 →
    ∃ l e, winL md code n at_ back out = some (l, e) ∧ ((e = 0 ∧ l.length ≤ 32 ∧ ∀ x ∈ l, GoodW md x) ∨ (l = [] ∧ (e = 2 ∨ e = 10 ∨ e = 11 ∨ e = 14 ∨ e = 15))) := by
  intro n
  induction n with
  | zero => intro at_ back out ho hol; exact ⟨_, _, rfl, .inr ⟨rfl, by omega⟩⟩
  | succ n ih =>
    intro at_ back out ho hol
    rw [winL, readF_is hb hl, Option.bind_some]
    rcases readP_ok (b := code) (at_ := at_) with ⟨h0, ⟨op, a, w, c, m, bi, t, hC, hr, hm, -⟩, -, -, -, -⟩ | he
    · rw [if_pos h0, hC]
      simp only [List.getD_cons_zero, List.getD_cons_succ]
      have hrr := (rightP_iff _ _ _ _ _ _ _).1 hr
      have hm4 : 0 ≤ m ∧ m ≤ 4 := by
        by_cases h : op = 1 ∨ op = 2 ∨ op = 3
        · have := (hrr.2.1 h).2; omega
        · have := hm h; omega
      by_cases hop : op = 0
      · rw [if_pos hop]
        exact ⟨_, _, rfl, .inl ⟨rfl, hol, ho⟩⟩
      rw [if_neg hop]
      by_cases ht : (turnF op t (readP code at_).2.1 back).1 = 0
      · rw [if_pos ht, window_f _ _ _ _ _ _ _ _ hm4.1 hm4.2, Option.bind_some]
        cases hw : windowP md op a w c m bi with
        | none =>
          rw [if_neg (by simp [tup])]
          exact ih _ _ _ ho hol
        | some x =>
          rw [if_pos (by simp [tup])]
          by_cases h32 : 32 ≤ (out.length : Int)
          · rw [if_pos h32]
            exact ⟨_, _, rfl, .inr ⟨rfl, by omega⟩⟩
          · rw [if_neg h32]
            refine ih _ _ _ ?_ (by simp; omega)
            intro y hy
            rcases List.mem_append.1 hy with hy | hy
            · exact ho y hy
            · obtain rfl := List.mem_singleton.1 hy
              exact good_window hmd hr hw
      · rw [if_neg ht]
        refine ⟨_, _, rfl, .inr ⟨rfl, ?_⟩⟩
        rcases turnF_err op t (readP code at_).2.1 back with h | h | h
        · exact absurd h ht
        · omega
        · omega
    · rw [if_neg (by omega)]
      exact ⟨_, _, rfl, .inr ⟨rfl, by omega⟩⟩
theorem right_is {md e0 e1 : Int} {code : List Int} : image_Image_Right.f md e0 e1 code = some (decide ((0 ≤ md ∧ md < 16) ∧ (code.length : Int) ≤ 1024 ∧ (0 ≤ e0 ∧ e0 < (code.length : Int)) ∧ (0 ≤ e1 ∧ e1 < (code.length : Int)))) := by
  have hw : ∀ a b : Int, image_within.f a b = some (decide (0 ≤ a ∧ a < b)) := by
    intro a b
    unfold image_within.f
    by_cases h : a ≥ 0
    · rw [if_pos h]; congr 1; simp [h]
    · rw [if_neg h]; congr 1; simp; omega
  unfold image_Image_Right.f
  rw [hw, hw, hw]
  by_cases h1 : 0 ≤ md ∧ md < 16
  · by_cases h2 : (code.length : Int) ≤ 1024
    · by_cases h3 : 0 ≤ e0 ∧ e0 < (code.length : Int)
      · simp [h1, h2, h3]
      · simp [h1, h2, h3]
    · simp [h1, h2]
  · simp [h1]
/-- What a walk ends by. -/
theorem windows_ok {md e0 e1 v : Int} {code : List Int} (hb : Bytes code) : ∃ l e, walk_Windows.f md e0 e1 code v = some (l, e) ∧ ((e = 0 ∧ (0 ≤ v ∧ v < 2) ∧ (0 ≤ md ∧ md < 16) ∧ l.length ≤ 32 ∧ ∀ x ∈ l, GoodW md x) ∨ (l = [] ∧ (e = 2 ∨ e = 10 ∨ e = 11 ∨ e = 14 ∨ e = 15))) := by
  unfold walk_Windows.f
  rw [right_is, Option.bind_some]
  by_cases h : (0 ≤ md ∧ md < 16) ∧ (code.length : Int) ≤ 1024 ∧ (0 ≤ e0 ∧ e0 < (code.length : Int)) ∧ (0 ≤ e1 ∧ e1 < (code.length : Int))
  · rw [if_pos (decide_eq_true h)]
    by_cases h1 : v < 0
    · rw [if_pos h1]; exact ⟨_, _, rfl, .inr ⟨rfl, .inl rfl⟩⟩
    rw [if_neg h1]
    by_cases h2 : 2 ≤ v
    · rw [if_pos h2]; exact ⟨_, _, rfl, .inr ⟨rfl, .inl rfl⟩⟩
    rw [if_neg h2]
    obtain ⟨l, e, he, hh⟩ := win_ok (md := md) h.1.1 hb (by omega) 4096 (if v = 0 then e0 else e1) [] [] (fun x hx => by cases hx) (by simp)
    refine ⟨l, e, he, ?_⟩
    rcases hh with ⟨h3, h4⟩ | hh
    · exact .inl ⟨h3, by omega, h.1, h4⟩
    · exact .inr hh
  · rw [if_neg (by simpa using h)]; exact ⟨_, _, rfl, .inr ⟨rfl, .inl rfl⟩⟩
end Go.Proofs.Ytbaapakkdnhcmaa.PWe
namespace Go.Proofs.Ytbaapakkdnhcmaa.PWe
open Go.RowKit Go.Proofs.YtbaapakkdnhcmaaW.PrintWords Go.Proofs.YtbaapakkdnhcmaaW.PrintLast Go.Proofs.YtbaapakkdnhcmaaW.PrintMore
set_option linter.unusedVariables false
set_option linter.unusedSimpArgs false

theorem mxl_ge (l : List Int) : ∀ (n j : Nat), j ≤ n → rd l (j : Int) ≤ mxl l n
  | 0, j, h => by obtain rfl : j = 0 := by omega
                  exact Int.le_refl _
  | n + 1, j, h => by
    rw [mxl]
    by_cases hj : j = n + 1
    · subst hj
      split <;> omega
    · have := mxl_ge l n j (by omega)
      split <;> omega
theorem mxl_le {l : List Int} {c : Int} (h : mxl l (l.length - 1) ≤ c) : ∀ s ∈ l, s ≤ c := by
  intro s hs
  obtain ⟨i, hi, rfl⟩ := List.getElem_of_mem hs
  have := mxl_ge l (l.length - 1) i (by omega)
  rw [rd_at hi] at this
  omega
theorem fit_good {md : Int} {l : List S76} (hl : l.length ≤ 32) (hg : ∀ x ∈ l, GoodW md x) : Fit l ∧ ∀ x ∈ l, 0 ≤ x.f0 ∧ x.f0 ≤ 2 := by
  refine ⟨⟨by omega, fun x hx => ?_⟩, fun x hx => ?_⟩
  · rcases hg x hx with h | h | h
    · omega
    · rw [h.2.1, h.2.2]; simp
    · rw [h.2.1, h.2.2]; simp
  · rcases hg x hx with h | h | h <;> omega
theorem spansW_ne : ∀ (l : List S76) (a b : Int), 0 < (spansW a b l).length
  | [], a, b => by simp [spansW]
  | x :: xs, a, b => by
    rw [spansW]
    split
    · exact spansW_ne xs _ _
    split
    · simp
    · exact spansW_ne xs _ _
/-- What Run answers. -/
def runP (md v : Int) (l : List S76) (e : Int) : List S47 × Int :=
  if e = 0 then (if mxl (spansW (10 + 2 * v) 3 l) ((spansW (10 + 2 * v) 3 l).length - 1) > 200 then ([], 16) else (⟨3, 0, 200 + 40 * v, 0, 0, 0, -1, false⟩ :: viewL md (200 + 40 * v) l, 0)) else ([], e)
theorem b800 : Bytes [8, 0, 0] := by unfold Bytes; decide
theorem b470 : Bytes [4, 7, 0] := by unfold Bytes; decide
theorem jump_on (md : Int) : ∀ n : Nat, winL md [8, 0, 0] n 0 [] [] = some ([], 15)
  | 0 => rfl
  | n + 1 => by
    rw [winL, readF_is b800 (by decide)]
    have h : readP [8, 0, 0] 0 = ([8, 0, 0, 0, 0, 0, 0], 3, 0) := by decide
    rw [h, Option.bind_some]
    have hw : walk_window.f 16 8 0 0 0 0 0 0 md = some (0, 0, 0, 0, [], [], false) := by
      rw [window_f _ _ _ _ _ _ _ _ (by decide) (by decide)]; rfl
    show (if (0 : Int) = 0 then (if (8 : Int) = 0 then _ else if (0 : Int) = 0 then (walk_window.f 16 8 0 0 0 0 0 0 md).bind _ else _) else _) = _
    rw [if_pos rfl, if_neg (by decide), if_pos rfl, hw, Option.bind_some]
    exact jump_on md n
theorem gap_on (n : Nat) : winL 0 [4, 7, 0] (n + 2) 0 [] [] = some ([⟨1, 7, 0, 0, [], []⟩], 0) := by
  rw [winL, readF_is b470 (by decide), show readP [4, 7, 0] 0 = ([4, 0, 0, 0, 0, 7, 0], 2, 0) from by decide, Option.bind_some]
  show (if (0 : Int) = 0 then (if (4 : Int) = 0 then _ else if (0 : Int) = 0 then (walk_window.f 16 4 0 0 0 0 7 0 0).bind _ else _) else _) = _
  rw [if_pos rfl, if_neg (by decide), if_pos rfl, window_f _ _ _ _ _ _ _ _ (by decide) (by decide), Option.bind_some]
  show winL 0 [4, 7, 0] (n + 1) 2 [] [⟨1, 7, 0, 0, [], []⟩] = _
  rw [winL, readF_is b470 (by decide), show readP [4, 7, 0] 2 = ([0, 0, 0, 0, 0, 0, 0], 3, 0) from by decide, Option.bind_some]
  rfl
end Go.Proofs.Ytbaapakkdnhcmaa.PWe
namespace Go.Proofs.Ytbaapakkdnhcmaa.PWe
open Go.RowKit Go.Proofs.YtbaapakkdnhcmaaW.PrintWords Go.Proofs.YtbaapakkdnhcmaaW.PrintLast Go.Proofs.YtbaapakkdnhcmaaW.PrintMore
set_option linter.unusedVariables false
set_option linter.unusedSimpArgs false

/-- A walk, in plain words. -/
def winP (md : Int) (code : List Int) : Nat → Int → List Int → List S76 → List S76 × Int
  | 0, _, _, _ => ([], 15)
  | n + 1, at_, back, out =>
    if (readP code at_).2.2 = 0 then
      if (readP code at_).1.getD 0 0 = 0 then (out, 0) else
      if (turnF ((readP code at_).1.getD 0 0) ((readP code at_).1.getD 6 0) (readP code at_).2.1 back).1 = 0 then
        match windowP md ((readP code at_).1.getD 0 0) ((readP code at_).1.getD 1 0) ((readP code at_).1.getD 2 0) ((readP code at_).1.getD 3 0) ((readP code at_).1.getD 4 0) ((readP code at_).1.getD 5 0) with
        | some x => if 32 ≤ (out.length : Int) then ([], 15) else winP md code n (turnF ((readP code at_).1.getD 0 0) ((readP code at_).1.getD 6 0) (readP code at_).2.1 back).2.1 (turnF ((readP code at_).1.getD 0 0) ((readP code at_).1.getD 6 0) (readP code at_).2.1 back).2.2 (out ++ [x])
        | none => winP md code n (turnF ((readP code at_).1.getD 0 0) ((readP code at_).1.getD 6 0) (readP code at_).2.1 back).2.1 (turnF ((readP code at_).1.getD 0 0) ((readP code at_).1.getD 6 0) (readP code at_).2.1 back).2.2 out
      else ([], (turnF ((readP code at_).1.getD 0 0) ((readP code at_).1.getD 6 0) (readP code at_).2.1 back).1)
    else ([], (readP code at_).2.2)
theorem cmd_many {C : List Int} (h : CmdOK C) : 0 ≤ C.getD 4 0 ∧ C.getD 4 0 ≤ 4 := by
  obtain ⟨op, a, w, c, m, bi, t, rfl, hr, hm, -⟩ := h
  have hrr := (rightP_iff _ _ _ _ _ _ _).1 hr
  show 0 ≤ m ∧ m ≤ 4
  by_cases h : op = 1 ∨ op = 2 ∨ op = 3
  · have := (hrr.2.1 h).2; omega
  · have := hm h; omega
theorem win_is (md : Int) {code : List Int} (hb : Bytes code) (hl : code.length ≤ 100000) : ∀ (n : Nat) (at_ : Int) (back : List Int) (out : List S76), winL md code n at_ back out = some (winP md code n at_ back out)
  | 0, at_, back, out => rfl
  | n + 1, at_, back, out => by
    rw [winL, readF_is hb hl, Option.bind_some, winP]
    by_cases h0 : (readP code at_).2.2 = 0
    · rw [if_pos h0, if_pos h0]
      have hC : CmdOK (readP code at_).1 := by
        rcases readP_ok (b := code) (at_ := at_) with h | h
        · exact h.2.1
        · omega
      split
      · rfl
      split
      · rw [window_f _ _ _ _ _ _ _ _ (cmd_many hC).1 (cmd_many hC).2, Option.bind_some]
        cases hw : windowP md ((readP code at_).1.getD 0 0) ((readP code at_).1.getD 1 0) ((readP code at_).1.getD 2 0) ((readP code at_).1.getD 3 0) ((readP code at_).1.getD 4 0) ((readP code at_).1.getD 5 0) with
        | none =>
          rw [if_neg (by simp [tup])]
          exact win_is md hb hl n _ _ _
        | some x =>
          rw [if_pos (by simp [tup])]
          simp only
          split
          · rfl
          · exact win_is md hb hl n _ _ _
      · rfl
    · rw [if_neg h0, if_neg h0]
end Go.Proofs.Ytbaapakkdnhcmaa.PWe
