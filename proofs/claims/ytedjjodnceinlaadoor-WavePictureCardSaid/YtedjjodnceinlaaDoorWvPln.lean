/- Waves, plain: what the printed functions come to. Helper text. -/
import Derived.Test.YtedjjodnceinlaaDoorPWvx6
import Derived.Test.YtedjjodnceinlaaDoorWvRun
import Derived.Lib.SplitLaws
namespace Go.Proofs.YtedjjodnceinlaaDoor.PWv
open Go.RowKit Go.Proofs.YtedjjodnceinlaaDoor.Kx Go.Proofs.YtedjjodnceinlaaDoorW.PrintWords Go.Proofs.YtedjjodnceinlaaDoorW.PrintLast Go.Proofs.YtedjjodnceinlaaDoorW.PrintMore
set_option linter.unusedVariables false
set_option linter.unusedSimpArgs false
theorem w64 {x : Int} (h0 : -9223372036854775808 ≤ x) (h1 : x ≤ 9223372036854775807) : wrap64 x = x := by unfold wrap64; omega
theorem and15 (a : Int) : 0 ≤ Go.bits .and .u8 a 15 ∧ Go.bits .and .u8 a 15 ≤ 15 := by
  have h : Go.bits .and .u8 a 15 = ((BitVec.ofInt 8 a &&& BitVec.ofInt 8 15).toNat : Int) % 256 := rfl
  have h2 : (BitVec.ofInt 8 a &&& BitVec.ofInt 8 15).toNat ≤ 15 := by
    rw [BitVec.toNat_and]
    exact Nat.le_trans Nat.and_le_right (by decide)
  rw [h]
  omega
theorem rd_in {l : List S46} {i : Int} (h0 : 0 ≤ i) (h1 : i < l.length) : rd_T46 l i ∈ l := by
  unfold rd_T46
  have h : i.toNat < l.length := by omega
  rw [List.getD_eq_getElem?_getD, List.getElem?_eq_getElem h]
  exact List.getElem_mem h
/-- The sum of the ticks is what bounds each of them. -/
def sumT (l : List S46) : Int := (l.map (·.f1)).foldr (· + ·) 0
theorem sumT_cons (x : S46) (r : List S46) : sumT (x :: r) = x.f1 + sumT r := rfl
theorem sumT_app (a b : List S46) : sumT (a ++ b) = sumT a + sumT b := by
  induction a with
  | nil => show sumT b = 0 + sumT b; omega
  | cons x r ih => rw [List.cons_append, sumT_cons, sumT_cons, ih]; omega
/-- A wave that is clean. -/
structure WOK (l : List S46) : Prop where
  each : ∀ x ∈ l, (0 ≤ x.f0 ∧ x.f0 ≤ 15) ∧ 1 ≤ x.f1
  hi : sumT l ≤ 1048576
theorem sumT_len : ∀ (l : List S46), (∀ x ∈ l, (0 ≤ x.f0 ∧ x.f0 ≤ 15) ∧ 1 ≤ x.f1) → (l.length : Int) ≤ sumT l
  | [], _ => by decide
  | x :: r, h => by
    have h1 := sumT_len r fun y hy => h y (List.mem_cons_of_mem _ hy)
    have h2 := (h x List.mem_cons_self).2
    rw [sumT_cons, List.length_cons]
    omega
theorem sumT_each : ∀ (l : List S46), (∀ x ∈ l, (0 ≤ x.f0 ∧ x.f0 ≤ 15) ∧ 1 ≤ x.f1) → ∀ x ∈ l, x.f1 ≤ sumT l
  | [], _, x, hx => by cases hx
  | y :: r, h, x, hx => by
    have h2 := (h y List.mem_cons_self).2
    have h3 := sumT_len r fun y hy => h y (List.mem_cons_of_mem _ hy)
    rw [sumT_cons]
    rcases List.mem_cons.1 hx with rfl | hx
    · omega
    · have := sumT_each r (fun y hy => h y (List.mem_cons_of_mem _ hy)) x hx
      omega
theorem put_ok {l : List S46} (h : WOK l) (a b : Int) : ∃ l' : List S46, wave_Wave_put.f l a b (sumT l) = some (l', sumT l') ∧ WOK l' ∧ sumT l' = sumT l + mn (mx b 0) (1048576 - sumT l) ∧ l'.length ≤ l.length + 1 ∧ (1 ≤ l.length → 1 ≤ l'.length) ∧ (1 ≤ mn (mx b 0) (1048576 - sumT l) → 1 ≤ l'.length) := by
  have hlen := sumT_len l h.each
  have hhi := h.hi
  have hw : wrap64 (1048576 - sumT l) = 1048576 - sumT l := w64 (by omega) (by omega)
  obtain ⟨t, ht⟩ : ∃ t, mn (mx b 0) (1048576 - sumT l) = t := ⟨_, rfl⟩
  have htb : 0 ≤ t ∧ t ≤ 1048576 - sumT l := by rw [← ht]; unfold mn mx; repeat' split <;> omega
  unfold wave_Wave_put.f
  rw [hw, ht]
  by_cases h0 : t = 0
  · rw [if_pos h0]
    exact ⟨l, rfl, h, by omega, by omega, fun h => h, fun h => by omega⟩
  rw [if_neg h0]
  have hm := and15 a
  obtain ⟨A, hA⟩ : ∃ x, Go.bits .and .u8 a 15 = x := ⟨_, rfl⟩
  rw [hA] at hm ⊢
  have hw3 : wrap64 (sumT l + t) = sumT l + t := w64 (by omega) (by omega)
  rw [hw3]
  have happ : sumT (l ++ [⟨A, t⟩]) = sumT l + t := by rw [sumT_app]; show sumT l + (t + 0) = _; omega
  have hapo : WOK (l ++ [⟨A, t⟩]) := ⟨fun x hx => by
    rcases List.mem_append.1 hx with hx | hx
    · exact h.each x hx
    · rw [List.mem_singleton.1 hx]; exact ⟨hm, by show 1 ≤ t; omega⟩, by rw [happ]; omega⟩
  by_cases hl : (l.length : Int) > 0
  · have hw2 : wrap64 ((l.length : Int) - 1) = (l.length : Int) - 1 := w64 (by omega) (by omega)
    rw [if_pos hl, hw2, if_pos (by omega), if_pos (by omega)]
    obtain ⟨pre, y, rfl⟩ : ∃ pre y, l = pre ++ [y] := by
      have hne : l ≠ [] := fun e => by rw [e] at hl; simp at hl
      exact ⟨l.dropLast, l.getLast hne, (List.dropLast_concat_getLast hne).symm⟩
    have hi : (((pre ++ [y]).length : Int) - 1).toNat = pre.length := by rw [List.length_append]; simp
    have hrd : rd_T46 (pre ++ [y]) (((pre ++ [y]).length : Int) - 1) = y := by
      unfold rd_T46
      rw [hi, List.getD_eq_getElem?_getD, List.getElem?_append_right (Nat.le_refl _), Nat.sub_self]
      rfl
    rw [hrd, hi]
    have hy := h.each y (List.mem_append_right _ List.mem_cons_self)
    have hs : sumT (pre ++ [y]) = sumT pre + y.f1 := by rw [sumT_app]; show sumT pre + (y.f1 + 0) = _; omega
    have hp := sumT_len pre fun x hx => h.each x (List.mem_append_left _ hx)
    by_cases he : y.f0 = A
    · have hw4 : wrap64 (y.f1 + t) = y.f1 + t := w64 (by omega) (by omega)
      rw [if_pos he, hw4]
      have hset : (pre ++ [y]).set pre.length ⟨y.f0, y.f1 + t⟩ = pre ++ [⟨y.f0, y.f1 + t⟩] := by
        rw [List.set_append_right _ _ (Nat.le_refl _), Nat.sub_self]; rfl
      have hs2 : sumT (pre ++ [⟨y.f0, y.f1 + t⟩]) = sumT (pre ++ [y]) + t := by rw [hs, sumT_app]; show sumT pre + (y.f1 + t + 0) = _; omega
      rw [hset]
      refine ⟨_, by rw [hs2], ⟨fun x hx => ?_, by rw [hs2]; omega⟩, hs2, by simp, fun _ => by simp, fun _ => by simp⟩
      rcases List.mem_append.1 hx with hx | hx
      · exact h.each x (List.mem_append_left _ hx)
      · rw [List.mem_singleton.1 hx]; exact ⟨hy.1, by show 1 ≤ y.f1 + t; omega⟩
    · rw [if_neg he, if_pos (by omega)]
      exact ⟨_, by rw [happ], hapo, happ, by simp, fun _ => by simp, fun _ => by simp⟩
  · rw [if_neg hl, if_pos (by omega)]
    exact ⟨_, by rw [happ], hapo, happ, by simp, fun _ => by simp, fun _ => by simp⟩
theorem l1_step {k : Nat} {x x15 : List S46} {i : Nat} (hlt : i < x15.length) (hb : x15.length ≤ 100000) {l' : List S46} (h1 : wave_Wave_put.f x (rd_T46 x15 i).f0 (rd_T46 x15 i).f1 (sumT x) = some (l', sumT l')) : wave_Join.l1 (k + 1) x (sumT x) [x15] 1 0 x15 (x15.length : Int) (i : Int) = wave_Join.l1 k l' (sumT l') [x15] 1 0 x15 (x15.length : Int) ((i + 1 : Nat) : Int) := by
  have hw : wrap64 ((i : Int) + 1) = ((i + 1 : Nat) : Int) := by rw [w64 (by omega) (by omega)]; omega
  rw [wave_Join.l1, if_pos (by omega), if_pos (by omega), if_pos (by omega), h1, Option.bind_some, hw]
theorem l1_end {k : Nat} {x x15 : List S46} {n : Int} {i : Nat} (hlt : ¬ i < x15.length) : wave_Join.l1 (k + 1 + 1) x n [x15] 1 0 x15 (x15.length : Int) (i : Int) = some x := by
  have hw : wrap64 ((0 : Int) + 1) = 1 := w64 (by omega) (by omega)
  rw [wave_Join.l1, if_neg (by omega), wave_Join.l0, hw, if_neg (by decide)]
theorem join_l1 (x15 : List S46) (hb : x15.length ≤ 100000) (n : Nat) : ∀ (k : Nat) (x : List S46) (i : Nat), x15.length - i = n → n + 3 ≤ k → i ≤ x15.length → WOK x → ∃ r, wave_Join.l1 k x (sumT x) [x15] 1 0 x15 (x15.length : Int) (i : Int) = some r ∧ WOK r ∧ r.length ≤ x.length + n := by
  induction n with
  | zero =>
    intro k x i hn hk hi h
    obtain ⟨k, rfl⟩ : ∃ j, k = j + 1 + 1 := ⟨k - 2, by omega⟩
    exact ⟨x, l1_end (by omega), h, by omega⟩
  | succ n ih =>
    intro k x i hn hk hi h
    obtain ⟨k, rfl⟩ : ∃ j, k = j + 1 := ⟨k - 1, by omega⟩
    obtain ⟨l', h1, h2, _, h4, _, _⟩ := put_ok h (rd_T46 x15 i).f0 (rd_T46 x15 i).f1
    rw [l1_step (by omega) hb h1]
    clear h1
    obtain ⟨r, hr, hw2, hle⟩ := ih k l' (i + 1) (by omega) (by omega) (by omega) h2
    exact ⟨r, hr, hw2, by omega⟩
theorem clean_ok {k : Nat} (l : List S46) (hk : l.length + 10 ≤ k) (hl : l.length ≤ 100000) : ∃ r, wave_Wave_Clean.f k l = some r ∧ WOK r ∧ r.length ≤ l.length := by
  obtain ⟨k, rfl⟩ : ∃ j, k = j + 1 := ⟨k - 1, by omega⟩
  obtain ⟨r, h1, h2, h4⟩ := join_l1 l hl l.length k [] 0 (by omega) (by omega) (by omega) ⟨fun x hx => absurd hx (by simp), by decide⟩
  refine ⟨r, ?_, h2, by simpa using h4⟩
  have hl1 : (([l] : List (List S46)).length : Int) = 1 := rfl
  unfold wave_Wave_Clean.f wave_Join.f wave_Join.l0
  rw [hl1, if_pos (by omega), if_pos (by omega), if_pos (by omega)]
  have e : rd_L3 [l] 0 = l := rfl
  rw [e]
  have h5 : wave_Join.l1 k [] 0 [l] 1 0 l (l.length : Int) 0 = some r := h1
  rw [h5, Option.bind_some]
theorem digits_ok : ∀ (j k : Nat) (n : Int), j + 1 ≤ k → 0 ≤ n → n < 10 ^ (j + 1) → j ≤ 1000 → n ≤ 9223372036854775807 → ∃ s, wave_digits.f k n = some s ∧ s.size ≤ j + 1
  | j, 0, _, hk, _, _, _, _ => absurd hk (by omega)
  | j, k + 1, n, hk, h0, hn, hj, hnb => by
    unfold wave_digits.f
    by_cases h10 : n < 10
    · rw [if_pos h10]
      exact ⟨_, rfl, by rw [strOfNums_size]; simp⟩
    rw [if_neg h10]
    cases j with
    | zero => exact absurd hn (by simpa using h10)
    | succ j =>
      have hp : (10 : Int) ^ (j + 1 + 1) = 10 * 10 ^ (j + 1) := by rw [Int.pow_succ, Int.mul_comm]
      have hpos : (0 : Int) < 10 ^ (j + 1) := Int.pow_pos (by decide)
      have hd0 : 0 ≤ n / 10 := by omega
      have hd1 : n / 10 < 10 ^ (j + 1) := by rw [hp] at hn; omega
      have hb : n / 10 ≤ 9223372036854775807 := by omega
      have e1 : wrap64 (Int.tdiv n 10) = n / 10 := by rw [Int.tdiv_eq_ediv_of_nonneg h0]; exact w64 (by omega) hb
      have e2 : Int.tmod n 10 = n % 10 := Int.tmod_eq_emod_of_nonneg h0
      obtain ⟨s, hs, hz⟩ := digits_ok j k (n / 10) (by omega) hd0 hd1 (by omega) hb
      obtain ⟨q, hq, hzq⟩ := digits_ok 0 k (n % 10) (by omega) (by omega) (by show n % 10 < 10 ^ 1; omega) (by omega) (by omega)
      rw [e1, e2, hs, Option.bind_some, hq, Option.bind_some, if_pos (by omega)]
      exact ⟨s ++ q, rfl, by rw [ByteArray.size_append]; omega⟩
/-! ### The text -/
theorem intercal_len (sep : List UInt8) (n : Nat) : ∀ (xs : List (List UInt8)), (∀ x ∈ xs, x.length ≤ n) → (Lib.join xs sep).length ≤ xs.length * (n + sep.length)
  | [], _ => by rw [Lib.join_nil]; simp
  | x :: r, h => by
    rw [Lib.join_cons, List.length_append, List.length_cons]
    have h1 := h x List.mem_cons_self
    have h2 : (Lib.joinTail sep r).length ≤ r.length * (n + sep.length) := by
      have hr : ∀ (r : List (List UInt8)), (∀ x ∈ r, x.length ≤ n) → (Lib.joinTail sep r).length ≤ r.length * (n + sep.length) := by
        intro r
        induction r with
        | nil => intro _; simp [Lib.joinTail]
        | cons y q ih =>
          intro hy
          have h3 := ih fun z hz => hy z (List.mem_cons_of_mem _ hz)
          have h4 := hy y List.mem_cons_self
          unfold Lib.joinTail at h3 ⊢
          rw [List.map_cons, List.flatten_cons, List.length_append, List.length_append, List.length_cons, Nat.succ_mul]
          omega
      exact hr r fun z hz => h z (List.mem_cons_of_mem _ hz)
    rw [Nat.succ_mul]
    omega
theorem join_ok {xs : List ByteArray} (hn : xs.length ≤ 1000000) (hx : ∀ x ∈ xs, x.size ≤ 100) : ∃ s, strings_Join.f xs ⟨#[32]⟩ = some s := by
  unfold strings_Join.f joinL
  have h := intercal_len [32] 100 (xs.map (·.data.toList)) (fun x hx' => by
    obtain ⟨y, hy, rfl⟩ := List.mem_map.1 hx'
    show y.data.toList.length ≤ 100
    rw [Array.length_toList]
    exact hx y hy)
  rw [List.length_map] at h
  have h2 : (Lib.join (xs.map (·.data.toList)) [32]).length ≤ 140737488355328 := Nat.le_trans h (by show xs.length * 101 ≤ _; omega)
  exact ⟨_, if_pos ⟨h2, by omega⟩⟩
theorem text_l0 (c : List S46) (hc : WOK c) (hl : c.length ≤ 100000) (n : Nat) : ∀ (k : Nat) (xs : List ByteArray) (i : Nat), c.length - i = n → n + 30 ≤ k → i ≤ c.length → xs.length = i → (∀ x ∈ xs, x.size ≤ 100) → ∃ s, wave_Wave_Text.l0 k xs c (c.length : Int) (i : Int) = some s := by
  induction n with
  | zero =>
    intro k xs i hn hk hi hx hz
    obtain ⟨k, rfl⟩ : ∃ j, k = j + 1 := ⟨k - 1, by omega⟩
    rw [wave_Wave_Text.l0, if_neg (by omega)]
    by_cases h0 : (xs.length : Int) = 0
    · rw [if_pos h0]; exact ⟨_, rfl⟩
    · rw [if_neg h0]
      obtain ⟨s, hs⟩ := join_ok (xs := xs) (by omega) hz
      rw [hs, Option.bind_some]
      exact ⟨s, rfl⟩
  | succ n ih =>
    intro k xs i hn hk hi hx hz
    obtain ⟨k, rfl⟩ : ∃ j, k = j + 1 := ⟨k - 1, by omega⟩
    have hm := rd_in (l := c) (i := (i : Int)) (by omega) (by omega)
    obtain ⟨x, hxx⟩ : ∃ x, rd_T46 c (i : Int) = x := ⟨_, rfl⟩
    rw [hxx] at hm
    have he := hc.each x hm
    have ht := sumT_each c hc.each x hm
    have hb := hc.hi
    obtain ⟨d, hd, hds⟩ := digits_ok 6 k x.f1 (by omega) (by omega) (by show x.f1 < 10 ^ 7; omega) (by omega) (by omega)
    rw [wave_Wave_Text.l0, if_pos (by omega), if_pos (by omega), if_pos (by omega), hxx, hd, Option.bind_some, if_pos (by omega), if_pos (by omega)]
    have hm2 : (x.f0 + 1) % 256 = x.f0 + 1 := by omega
    rw [hm2, if_pos (by omega), if_pos (by omega)]
    obtain ⟨e, hee⟩ : ∃ e, (⟨#[48, 49, 50, 51, 52, 53, 54, 55, 56, 57, 97, 98, 99, 100, 101, 102]⟩ : ByteArray).extract x.f0.toNat (x.f0 + 1).toNat = e := ⟨_, rfl⟩
    have hes : e.size ≤ 16 := by
      rw [← hee, ByteArray.size_extract]
      show min _ 16 - _ ≤ 16
      omega
    rw [hee]
    have hsz : (d ++ (⟨#[120]⟩ : ByteArray)).size ≤ 8 := by rw [ByteArray.size_append]; show d.size + 1 ≤ 8; omega
    rw [if_pos (by omega), if_pos (by omega), w64 (by omega) (by omega)]
    have hi1 : ((i : Int) + 1) = ((i + 1 : Nat) : Int) := by omega
    rw [hi1]
    refine ih k _ (i + 1) (by omega) (by omega) (by omega) (by rw [List.length_append, hx]; rfl) (fun y hy => ?_)
    rcases List.mem_append.1 hy with hy | hy
    · exact hz y hy
    · rw [List.mem_singleton.1 hy, ByteArray.size_append]; omega
theorem text_ok {k : Nat} (l : List S46) (hk : l.length + 40 ≤ k) (hl : l.length ≤ 100000) : ∃ s, wave_Wave_Text.f k l = some s := by
  obtain ⟨c, h1, h2, h3⟩ := clean_ok (k := k) l (by omega) hl
  obtain ⟨s, hs⟩ := text_l0 c h2 (by omega) c.length k [] 0 (by omega) (by omega) (by omega) rfl (fun x hx => absurd hx (by simp))
  unfold wave_Wave_Text.f
  rw [h1, Option.bind_some]
  exact ⟨s, hs⟩
/-! ### How long -/
theorem long_l0 (l : List S46) (hl : l.length ≤ 100000) (n : Nat) : ∀ (k : Nat) (x : Int) (i : Nat), l.length - i = n → n + 3 ≤ k → i ≤ l.length → 0 ≤ x ∧ x ≤ 1048576 → ∃ r, wave_Wave_Long.l0 k x l (l.length : Int) (i : Int) = some r ∧ x ≤ r ∧ r ≤ 1048576 := by
  induction n with
  | zero =>
    intro k x i hn hk hi hx
    obtain ⟨k, rfl⟩ : ∃ j, k = j + 1 := ⟨k - 1, by omega⟩
    rw [wave_Wave_Long.l0, if_neg (by omega)]
    exact ⟨x, rfl, by omega, by omega⟩
  | succ n ih =>
    intro k x i hn hk hi hx
    obtain ⟨k, rfl⟩ : ∃ j, k = j + 1 := ⟨k - 1, by omega⟩
    have hw : wrap64 (1048576 - x) = 1048576 - x := w64 (by omega) (by omega)
    obtain ⟨t, ht⟩ : ∃ t, mn (mx (rd_T46 l (i : Int)).f1 0) (1048576 - x) = t := ⟨_, rfl⟩
    have htb : 0 ≤ t ∧ t ≤ 1048576 - x := by rw [← ht]; unfold mn mx; repeat' split <;> omega
    rw [wave_Wave_Long.l0, if_pos (by omega), if_pos (by omega), if_pos (by omega), hw, ht, w64 (by omega) (by omega), w64 (by omega) (by omega)]
    have hi1 : ((i : Int) + 1) = ((i + 1 : Nat) : Int) := by omega
    rw [hi1]
    obtain ⟨r, h1, h2, h3⟩ := ih k (x + t) (i + 1) (by omega) (by omega) (by omega) (by omega)
    exact ⟨r, h1, by omega, h3⟩
theorem long_ok {k : Nat} (l : List S46) (hk : l.length + 10 ≤ k) (hl : l.length ≤ 100000) : ∃ r, wave_Wave_Long.f k l = some r ∧ 0 ≤ r ∧ r ≤ 1048576 := by
  obtain ⟨r, h1, h2, h3⟩ := long_l0 l hl l.length k 0 0 (by omega) (by omega) (by omega) (by omega)
  exact ⟨r, h1, h2, h3⟩
theorem long_pos {k : Nat} (x : S46) (r : List S46) (hk : r.length + 20 ≤ k) (hl : r.length ≤ 90000) (hx : 1 ≤ x.f1) : ∃ n, wave_Wave_Long.f k (x :: r) = some n ∧ 1 ≤ n := by
  obtain ⟨k, rfl⟩ : ∃ j, k = j + 1 := ⟨k - 1, by omega⟩
  have hlen : ((x :: r).length : Int) = (r.length : Int) + 1 := by rw [List.length_cons]; omega
  obtain ⟨t, ht⟩ : ∃ t, mn (mx x.f1 0) (1048576 - 0) = t := ⟨_, rfl⟩
  have htb : 1 ≤ t ∧ t ≤ 1048576 := by rw [← ht]; unfold mn mx; repeat' split <;> omega
  obtain ⟨n, h1, h2, h3⟩ := long_l0 (x :: r) (by rw [List.length_cons]; omega) r.length k t 1 (by rw [List.length_cons]; omega) (by omega) (by rw [List.length_cons]; omega) (by omega)
  refine ⟨n, ?_, by omega⟩
  have e : rd_T46 (x :: r) 0 = x := rfl
  unfold wave_Wave_Long.f
  rw [wave_Wave_Long.l0, if_pos (by omega), if_pos (by omega), if_pos (by omega), e, w64 (x := 1048576 - 0) (by omega) (by omega), ht, w64 (by omega) (by omega), w64 (by omega) (by omega), Int.zero_add, Int.zero_add]
  exact h1
end Go.Proofs.YtedjjodnceinlaaDoor.PWv
