/- Plain laws on waves: At, Long, Few against the raw ticks. -/
import Derived.Test.YtedjjodnceinlaaDoorWvPl2
namespace Go.Proofs.YtedjjodnceinlaaDoor.PWv
open Go.RowKit Go.Proofs.YtedjjodnceinlaaDoor.Kx Go.Proofs.YtedjjodnceinlaaDoor.PWe Go.Proofs.YtedjjodnceinlaaDoorW.PrintWords Go.Proofs.YtedjjodnceinlaaDoorW.PrintLast Go.Proofs.YtedjjodnceinlaaDoorW.PrintMore
set_option linter.unusedVariables false
set_option linter.unusedSimpArgs false
theorem tkR_get (L a : Int) (n i : Nat) : (tkR L a n)[i]? = (List.replicate n L)[i]?.map fun x => (a + (i : Int), x) := by
  unfold tkR
  rw [List.getElem?_map]
  by_cases h : i < n
  · simp [h]
  · simp [h]
theorem tks_get : ∀ (l : List S46), (∀ x ∈ l, (0 ≤ x.f0 ∧ x.f0 ≤ 15) ∧ 1 ≤ x.f1) → ∀ (a : Int) (i : Nat), (tks l a)[i]? = (tickL l)[i]?.map fun x => (a + (i : Int), x)
  | [], _, a, i => by simp [tks, tickL]
  | r :: q, h, a, i => by
    have h2 := (h r (by simp)).2
    have e : tickL (r :: q) = List.replicate r.f1.toNat r.f0 ++ tickL q := by simp [tickL]
    rw [e, tks]
    by_cases hi : i < r.f1.toNat
    · rw [List.getElem?_append_left (by rw [tkR_len]; exact hi), List.getElem?_append_left (by rw [List.length_replicate]; exact hi), tkR_get]
    · rw [List.getElem?_append_right (by rw [tkR_len]; omega), List.getElem?_append_right (by rw [List.length_replicate]; omega), tkR_len, List.length_replicate, tks_get q (fun x hx => h x (List.mem_cons_of_mem _ hx))]
      congr 1
      funext x
      congr 1
      omega
theorem rawT_drop {l : List S46} {j : Nat} (h : j < l.length) : rawT (l.drop j) = List.replicate l[j].f1.toNat (Go.bits .and .u8 l[j].f0 15) ++ rawT (l.drop (j + 1)) := by
  rw [List.drop_eq_getElem_cons h, rawT_cons]
theorem mx_law (t : Int) : mx t 0 = (t.toNat : Int) := by unfold mx; split <;> omega
theorem mm_law {t m : Int} (h : (t.toNat : Int) ≤ m) : mn (mx t 0) m = (t.toNat : Int) := by rw [mx_law]; unfold mn; split <;> omega
theorem wS {j : Nat} (h : j ≤ 1000000) : wrap64 ((j : Int) + 1) = ((j + 1 : Nat) : Int) := (w64 (by omega) (by omega)).trans (by omega)
theorem long_law (l : List S46) (hl : l.length ≤ 100000) (n : Nat) : ∀ (k : Nat) (x : Int) (j : Nat), l.length - j = n → n + 3 ≤ k → j ≤ l.length → 0 ≤ x → x + ((rawT (l.drop j)).length : Int) ≤ 1048576 → wave_Wave_Long.l0 k x l (l.length : Int) (j : Int) = some (x + ((rawT (l.drop j)).length : Int)) := by
  induction n with
  | zero =>
    intro k x j hn hk hj h0 hs
    obtain ⟨k, rfl⟩ : ∃ i, k = i + 1 := ⟨k - 1, by omega⟩
    rw [wave_Wave_Long.l0, if_neg (by omega), List.drop_eq_nil_of_le (by omega)]
    simp [rawT]
  | succ n ih =>
    intro k x j hn hk hj h0 hs
    obtain ⟨k, rfl⟩ : ∃ i, k = i + 1 := ⟨k - 1, by omega⟩
    have hjl : j < l.length := by omega
    rw [rawT_drop hjl, List.length_append, List.length_replicate] at hs ⊢
    have g1 : (j : Int) < (l.length : Int) := by omega
    have g2 : 0 ≤ (j : Int) := by omega
    have g3 := ih k (x + (l[j].f1.toNat : Int)) (j + 1) (by omega) (by omega) (by omega) (by omega) (by omega)
    have g4 : x + (l[j].f1.toNat : Int) + ((rawT (l.drop (j + 1))).length : Int) = x + ((l[j].f1.toNat + (rawT (l.drop (j + 1))).length : Nat) : Int) := by omega
    have hm : mn (mx l[j].f1 0) (1048576 - x) = (l[j].f1.toNat : Int) := mm_law (by omega)
    have hw := w64 (x := 1048576 - x) (by omega) (by omega)
    have hw2 := w64 (x := x + (l[j].f1.toNat : Int)) (by omega) (by omega)
    have hw3 := wS (j := j) (by omega)
    rw [wave_Wave_Long.l0, if_pos g1, if_pos g2, if_pos g1, rd_at hjl, hw, hm, hw2, hw3, g3, g4]
theorem at_law0 (l : List S46) (hl : l.length ≤ 100000) (n : Nat) : ∀ (k : Nat) (i j : Nat), l.length - j = n → n + 3 ≤ k → j ≤ l.length → (rawT (l.drop j)).length ≤ 1048576 → ∀ x, (rawT (l.drop j))[i]? = some x → wave_Wave_At.l0 k (i : Int) l (l.length : Int) (j : Int) = some (x, true) := by
  induction n with
  | zero =>
    intro k i j hn hk hj hs x hx
    rw [List.drop_eq_nil_of_le (by omega)] at hx
    simp [rawT] at hx
  | succ n ih =>
    intro k i j hn hk hj hs x hx
    obtain ⟨k, rfl⟩ : ∃ i, k = i + 1 := ⟨k - 1, by omega⟩
    have hjl : j < l.length := by omega
    rw [rawT_drop hjl] at hx hs
    rw [List.length_append, List.length_replicate] at hs
    have g1 : (j : Int) < (l.length : Int) := by omega
    have g2 : 0 ≤ (j : Int) := by omega
    rw [wave_Wave_At.l0, if_pos g1, if_pos g2, if_pos g1, rd_at hjl, mx_law]
    by_cases hi : i < l[j].f1.toNat
    · rw [if_neg (by omega)]
      rw [List.getElem?_append_left (by rw [List.length_replicate]; exact hi), List.getElem?_replicate, if_pos hi] at hx
      rw [Option.some.inj hx]
    · rw [List.getElem?_append_right (by rw [List.length_replicate]; omega), List.length_replicate] at hx
      have hil : i - l[j].f1.toNat < (rawT (l.drop (j + 1))).length := (List.getElem?_eq_some_iff.1 hx).1
      have g3 : (i : Int) ≥ (l[j].f1.toNat : Int) := by omega
      have g4 := ih k (i - l[j].f1.toNat) (j + 1) (by omega) (by omega) (by omega) (by omega) x hx
      have hw4 : wrap64 ((i : Int) - (l[j].f1.toNat : Int)) = ((i - l[j].f1.toNat : Nat) : Int) := (w64 (by omega) (by omega)).trans (by omega)
      rw [if_pos g3, hw4, wS (by omega)]
      exact g4
theorem long_raw {k : Nat} (l : List S46) (hk : l.length + 20 ≤ k) (hl : l.length ≤ 100000) (ht : (rawT l).length ≤ 1048576) : wave_Wave_Long.f k l = some ((rawT l).length : Int) := by
  have h := long_law l hl l.length k 0 0 (by omega) (by omega) (by omega) (by omega) (by rw [List.drop_zero]; omega)
  rw [List.drop_zero, Int.zero_add] at h
  exact h
theorem at_raw {k : Nat} (l : List S46) (hk : l.length + 20 ≤ k) (hl : l.length ≤ 100000) (ht : (rawT l).length ≤ 1048576) {i : Nat} {x : Int} (hx : (rawT l)[i]? = some x) : wave_Wave_At.f k l (i : Int) = some (x, true) := by
  have hi : i < (rawT l).length := (List.getElem?_eq_some_iff.1 hx).1
  obtain ⟨k, rfl⟩ : ∃ i, k = i + 1 := ⟨k - 1, by omega⟩
  unfold wave_Wave_At.f
  rw [if_neg (by omega), long_raw l (by omega) hl ht, Option.bind_some, wave_Wave_At.j0, if_neg (by simp; omega)]
  exact at_law0 l hl l.length k i 0 (by omega) (by omega) (by omega) (by rw [List.drop_zero]; exact ht) x (by rw [List.drop_zero]; exact hx)
theorem few_law (l : List S46) (hl : l.length ≤ 200) (n : Nat) : ∀ (k : Nat) (x : Int) (j : Nat), l.length - j = n → n + 3 ≤ k → j ≤ l.length → 0 ≤ x → x ≤ 3000 → ∃ r, busbarlaw37_Few.l0 k l x (j : Int) = some r ∧ (r = 0 ∨ r = 1 ∧ x + ((rawT (l.drop j)).length : Int) ≤ 3000) := by
  induction n with
  | zero =>
    intro k x j hn hk hj h0 hs
    obtain ⟨k, rfl⟩ : ∃ i, k = i + 1 := ⟨k - 1, by omega⟩
    rw [busbarlaw37_Few.l0, if_neg (by omega), List.drop_eq_nil_of_le (by omega)]
    exact ⟨1, rfl, .inr ⟨rfl, by simp [rawT]; omega⟩⟩
  | succ n ih =>
    intro k x j hn hk hj h0 hs
    obtain ⟨k, rfl⟩ : ∃ i, k = i + 1 := ⟨k - 1, by omega⟩
    have hjl : j < l.length := by omega
    have g1 : (j : Int) < (l.length : Int) := by omega
    have g2 : 0 ≤ (j : Int) := by omega
    rw [busbarlaw37_Few.l0, if_pos g1, if_pos g2, rd_at hjl, mx_law, wS (by omega)]
    by_cases hb : l[j].f1 > 3000
    · rw [if_pos hb]
      exact ⟨0, rfl, .inl rfl⟩
    rw [if_neg hb]
    rw [w64 (x := x + (l[j].f1.toNat : Int)) (by omega) (by omega)]
    by_cases hc : x + (l[j].f1.toNat : Int) > 3000
    · rw [if_pos hc]
      exact ⟨0, rfl, .inl rfl⟩
    rw [if_neg hc]
    obtain ⟨r, h1, h2⟩ := ih k (x + (l[j].f1.toNat : Int)) (j + 1) (by omega) (by omega) (by omega) (by omega) (by omega)
    refine ⟨r, h1, h2.imp id fun ⟨h3, h4⟩ => ⟨h3, ?_⟩⟩
    rw [rawT_drop hjl, List.length_append, List.length_replicate]
    omega
theorem few_raw {k : Nat} (l : List S46) (hk : 300 ≤ k) : ∃ r, busbarlaw37_Few.f k l = some r ∧ (r = 0 ∨ r = 1 ∧ (rawT l).length ≤ 3000 ∧ l.length ≤ 200) := by
  unfold busbarlaw37_Few.f
  by_cases h : (l.length : Int) > 200
  · rw [if_pos h]
    exact ⟨0, rfl, .inl rfl⟩
  · rw [if_neg h]
    obtain ⟨r, h1, h2⟩ := few_law l (by omega) l.length k 0 0 (by omega) (by omega) (by omega) (by omega) (by omega)
    refine ⟨r, h1, h2.imp id fun ⟨h3, h4⟩ => ⟨h3, ?_, by omega⟩⟩
    rw [List.drop_zero] at h4
    omega
end Go.Proofs.YtedjjodnceinlaaDoor.PWv
