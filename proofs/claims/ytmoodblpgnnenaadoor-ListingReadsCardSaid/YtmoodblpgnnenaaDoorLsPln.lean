/- Plain laws of the listing: digits, numbers, pieces. No program in sight. -/
import Derived.RowKit
import Derived.Lib.SplitLaws
import Derived.Lib.IndexMore
namespace Go.Proofs.YtmoodblpgnnenaaDoor.PLs
open Go.RowKit
set_option linter.unusedVariables false
set_option linter.unusedSimpArgs false
/-! ### Decimal digits -/
def dig (n : Nat) : UInt8 := UInt8.ofNat (48 + n)
def digP (n : Nat) : List UInt8 := if n < 10 then [dig n] else digP (n / 10) ++ [dig (n % 10)]
  termination_by n
theorem digP_small {n : Nat} (h : n < 10) : digP n = [dig n] := by rw [digP, if_pos h]
theorem digP_great {n : Nat} (h : ¬ n < 10) : digP n = digP (n / 10) ++ [dig (n % 10)] := by rw [digP, if_neg h]
def isDig (b : UInt8) : Bool := decide (48 ≤ b.toNat) && decide (b.toNat ≤ 57)
/-- The value of digits, behind one that was. -/
def valF (v : Nat) (l : List UInt8) : Nat := l.foldl (fun v b => v * 10 + (b.toNat - 48)) v
theorem dig_nat {n : Nat} (h : n < 10) : (dig n).toNat = 48 + n := by
  unfold dig
  rw [UInt8.toNat_ofNat']
  omega
theorem dig_is {n : Nat} (h : n < 10) : isDig (dig n) = true := by
  unfold isDig
  rw [dig_nat h]
  simp
  omega
theorem isDig_dig {b : UInt8} (h : isDig b = true) : dig (b.toNat - 48) = b ∧ b.toNat - 48 < 10 := by
  unfold isDig at h
  simp only [Bool.and_eq_true, decide_eq_true_eq] at h
  refine ⟨UInt8.toNat_inj.1 ?_, by omega⟩
  rw [dig_nat (by omega)]
  omega
theorem valF_snoc (v : Nat) (l : List UInt8) (b : UInt8) : valF v (l ++ [b]) = valF v l * 10 + (b.toNat - 48) := by simp [valF]
theorem valF_mono (l : List UInt8) : ∀ v, v ≤ valF v l := by
  induction l with
  | nil => exact fun v => Nat.le_refl _
  | cons b r ih =>
    intro v
    have := ih (v * 10 + (b.toNat - 48))
    show v ≤ valF (v * 10 + (b.toNat - 48)) r
    omega
theorem digP_val : ∀ n : Nat, valF 0 (digP n) = n ∧ (digP n).all isDig = true ∧ digP n ≠ [] := by
  intro n
  induction n using Nat.strongRecOn with
  | _ n ih =>
    by_cases h : n < 10
    · rw [digP_small h]
      refine ⟨?_, by simp [dig_is h], by simp⟩
      show 0 * 10 + ((dig n).toNat - 48) = n
      rw [dig_nat h]; omega
    · rw [digP_great h]
      obtain ⟨h1, h2, h3⟩ := ih (n / 10) (by omega)
      refine ⟨?_, ?_, by simp⟩
      · rw [valF_snoc, h1, dig_nat (by omega)]; omega
      · rw [List.all_append, h2, Bool.true_and]; simp [dig_is (show n % 10 < 10 by omega)]
theorem digP_head : ∀ n : Nat, (∃ b r, digP n = b :: r ∧ (b = 48 → r = [] ∧ n = 0)) := by
  intro n
  induction n using Nat.strongRecOn with
  | _ n ih =>
    by_cases h : n < 10
    · rw [digP_small h]
      refine ⟨_, _, rfl, fun e => ⟨rfl, ?_⟩⟩
      have := congrArg UInt8.toNat e
      rw [dig_nat h] at this
      have e2 : (48 : UInt8).toNat = 48 := rfl
      omega
    · rw [digP_great h]
      obtain ⟨b, r, e, h2⟩ := ih (n / 10) (by omega)
      rw [e]
      refine ⟨b, r ++ [dig (n % 10)], rfl, fun e2 => ?_⟩
      have := (h2 e2).2
      omega
/-- What reads as a number. -/
def numP (s : List UInt8) : Option Nat :=
  if s = [] ∨ (s.head? = some 48 ∧ 1 < s.length) ∨ s.all isDig = false ∨ 2147483648 ≤ valF 0 s then none else some (valF 0 s)
theorem numP_digP {n : Nat} (h : n < 2147483648) : numP (digP n) = some n := by
  obtain ⟨h1, h2, h3⟩ := digP_val n
  obtain ⟨b, r, e, h4⟩ := digP_head n
  unfold numP
  rw [h1, h2, if_neg]
  rintro (h5 | ⟨h5, h6⟩ | h5 | h5)
  · exact h3 h5
  · rw [e] at h5 h6
    obtain ⟨h7, _⟩ := h4 (by simpa using h5)
    rw [h7] at h6
    simp at h6
  · cases h5
  · omega
theorem digP_valF : ∀ (m : Nat) (s : List UInt8), s.length = m → s ≠ [] → (s.head? = some 48 → s.length ≤ 1) → s.all isDig = true → digP (valF 0 s) = s := by
  intro m
  induction m with
  | zero => intro s h h1; exact absurd (List.eq_nil_of_length_eq_zero h) h1
  | succ m ih =>
    intro s hm hne hz hd
    obtain ⟨q, b, rfl⟩ : ∃ q b, s = q ++ [b] := ⟨s.dropLast, s.getLast hne, (List.dropLast_concat_getLast hne).symm⟩
    rw [List.length_append] at hm
    simp only [List.length_cons, List.length_nil] at hm
    rw [List.all_append, Bool.and_eq_true] at hd
    have hb : isDig b = true := by simpa using hd.2
    obtain ⟨hb1, hb2⟩ := isDig_dig hb
    rw [valF_snoc]
    cases hq : q with
    | nil =>
      have e : valF 0 ([] : List UInt8) = 0 := rfl
      rw [e, Nat.zero_mul, Nat.zero_add, digP_small hb2, hb1]; rfl
    | cons x r =>
      rw [← hq]
      have hq1 : q ≠ [] := by rw [hq]; simp
      have hh : (q ++ [b]).head? = q.head? := by rw [hq]; rfl
      have hx : q.head? ≠ some 48 := fun e => by
        have := hz (by rw [hh]; exact e)
        rw [List.length_append, hq] at this
        simp at this
      have h1 := ih q (by omega) hq1 (fun e => absurd e hx) hd.1
      have h2 : 1 ≤ valF 0 q := by
        rw [hq]
        show 1 ≤ valF (0 * 10 + (x.toNat - 48)) r
        have hxd : isDig x = true := by rw [hq] at hd; simp at hd; exact hd.1.1
        obtain ⟨hx1, hx2⟩ := isDig_dig hxd
        have hx3 : x.toNat - 48 ≠ 0 := fun e => by
          rw [e] at hx1
          exact hx (by rw [hq, ← hx1]; rfl)
        have := valF_mono r (0 * 10 + (x.toNat - 48))
        omega
      rw [digP_great (by omega)]
      have e1 : (valF 0 q * 10 + (b.toNat - 48)) / 10 = valF 0 q := by omega
      have e2 : (valF 0 q * 10 + (b.toNat - 48)) % 10 = b.toNat - 48 := by omega
      rw [e1, e2, h1, hb1]
theorem numP_some {s : List UInt8} {n : Nat} (h : numP s = some n) : digP n = s ∧ n < 2147483648 := by
  unfold numP at h
  split at h
  · cases h
  · rename_i hc
    obtain rfl := Option.some.inj h
    have h1 : ¬ s = [] := fun e => hc (.inl e)
    have h2 : ¬ (s.head? = some 48 ∧ 1 < s.length) := fun e => hc (.inr (.inl e))
    have h3 : s.all isDig = true := by cases h3 : s.all isDig with
      | true => rfl
      | false => exact absurd (.inr (.inr (.inl h3))) hc
    have h4 : ¬ 2147483648 ≤ valF 0 s := fun e => hc (.inr (.inr (.inr e)))
    exact ⟨digP_valF s.length s rfl h1 (fun e => by rcases Nat.lt_or_ge 1 s.length with h | h; exact absurd ⟨e, h⟩ h2; exact h) h3, by omega⟩
/-- A number read digit by digit, ended as soon as it is too great. -/
def numR : List UInt8 → Nat → Option Nat
  | [], v => some v
  | b :: r, v => if b.toNat < 48 ∨ 57 < b.toNat ∨ 2147483648 ≤ v * 10 + (b.toNat - 48) then none else numR r (v * 10 + (b.toNat - 48))
theorem numR_is : ∀ (l : List UInt8) (v : Nat), v < 2147483648 → numR l v = if l.all isDig = false ∨ 2147483648 ≤ valF v l then none else some (valF v l)
  | [], v, hv => by
    rw [numR, if_neg]
    · rfl
    · rintro (h | h)
      · cases h
      · exact absurd h (by show ¬ 2147483648 ≤ v; omega)
  | b :: r, v, hv => by
    have e : valF v (b :: r) = valF (v * 10 + (b.toNat - 48)) r := rfl
    have ea : (b :: r).all isDig = (isDig b && r.all isDig) := rfl
    rw [numR, e, ea]
    by_cases h1 : isDig b = true
    · have h2 := h1
      unfold isDig at h2
      simp only [Bool.and_eq_true, decide_eq_true_eq] at h2
      rw [h1, Bool.true_and]
      by_cases h3 : 2147483648 ≤ v * 10 + (b.toNat - 48)
      · have h4 := valF_mono r (v * 10 + (b.toNat - 48))
        rw [if_pos (by omega), if_pos (.inr (by omega))]
      · rw [if_neg (by omega)]
        exact numR_is r _ (by omega)
    · have h2 : isDig b = false := by simpa using h1
      have h3 : b.toNat < 48 ∨ 57 < b.toNat ∨ 2147483648 ≤ v * 10 + (b.toNat - 48) := by
        unfold isDig at h2
        simp only [Bool.and_eq_false_iff, decide_eq_false_iff_not] at h2
        omega
      rw [h2, Bool.false_and, if_pos h3, if_pos (.inl rfl)]
theorem numP_is (s : List UInt8) : numP s = if s = [] ∨ (s.head? = some 48 ∧ 1 < s.length) then none else numR s 0 := by
  unfold numP
  by_cases h : s = [] ∨ (s.head? = some 48 ∧ 1 < s.length)
  · rw [if_pos h, if_pos (by rcases h with h | h; exact .inl h; exact .inr (.inl h))]
  · rw [if_neg h, numR_is s 0 (by omega)]
    by_cases h2 : s.all isDig = false ∨ 2147483648 ≤ valF 0 s
    · rw [if_pos h2, if_pos (.inr (.inr h2))]
    · rw [if_neg h2, if_neg]
      rintro (h3 | h3 | h3)
      · exact h (.inl h3)
      · exact h (.inr h3)
      · exact h2 h3
/-! ### Pieces -/
/-- The pieces between the marks c. -/
def spl (c : UInt8) : List UInt8 → List (List UInt8)
  | [] => [[]]
  | b :: r => if b = c then [] :: spl c r else ((spl c r).headD [] |>.cons b) :: (spl c r).tail
theorem spl_ne (c : UInt8) : ∀ l, spl c l ≠ []
  | [] => by simp [spl]
  | b :: r => by unfold spl; split <;> simp
/-- Pieces put together again. -/
def glue (c : UInt8) : List (List UInt8) → List UInt8
  | [] => []
  | [p] => p
  | p :: q :: r => p ++ c :: glue c (q :: r)
theorem glue_cons (c : UInt8) (p : List UInt8) {l : List (List UInt8)} (h : l ≠ []) : glue c (p :: l) = p ++ c :: glue c l := by
  cases l with
  | nil => exact absurd rfl h
  | cons q r => rfl
theorem glue_spl (c : UInt8) : ∀ l, glue c (spl c l) = l
  | [] => rfl
  | b :: r => by
    have ih := glue_spl c r
    have hn := spl_ne c r
    unfold spl
    by_cases h : b = c
    · rw [if_pos h, glue_cons c _ hn, ih, h]; rfl
    · rw [if_neg h]
      cases hs : spl c r with
      | nil => exact absurd hs hn
      | cons p q =>
        rw [hs] at ih
        rw [List.headD_cons, List.tail_cons]
        cases q with
        | nil => show b :: p = _; have : p = r := ih; rw [this]
        | cons q1 q2 => show (b :: p) ++ c :: glue c (q1 :: q2) = _; have : p ++ c :: glue c (q1 :: q2) = r := ih; rw [← this]; rfl
theorem spl_none {c : UInt8} : ∀ {p : List UInt8}, c ∉ p → spl c p = [p]
  | [], _ => rfl
  | b :: r, h => by
    have h1 : b ≠ c := fun e => h (by rw [e]; simp)
    have h2 := spl_none (c := c) (p := r) (fun e => h (List.mem_cons_of_mem _ e))
    unfold spl
    rw [if_neg h1, h2]; rfl
theorem spl_app {c : UInt8} : ∀ {p : List UInt8} (l : List UInt8), c ∉ p → spl c (p ++ c :: l) = p :: spl c l
  | [], l, _ => by show spl c (c :: l) = _; rw [spl, if_pos rfl]
  | b :: r, l, h => by
    have h1 : b ≠ c := fun e => h (by rw [e]; simp)
    have h2 := spl_app (c := c) (p := r) l (fun e => h (List.mem_cons_of_mem _ e))
    show spl c (b :: (r ++ c :: l)) = _
    rw [spl, if_neg h1, h2]; rfl
theorem spl_glue (c : UInt8) : ∀ (l : List (List UInt8)), l ≠ [] → (∀ p ∈ l, c ∉ p) → spl c (glue c l) = l
  | [], h, _ => absurd rfl h
  | [p], _, h => spl_none (h p (by simp))
  | p :: q :: r, _, h => by
    show spl c (p ++ c :: glue c (q :: r)) = _
    rw [spl_app _ (h p (by simp)), spl_glue c (q :: r) (by simp) (fun x hx => h x (List.mem_cons_of_mem _ hx))]
theorem spl_mem (c : UInt8) : ∀ l, ∀ p ∈ spl c l, c ∉ p
  | [], p, hp => by
    have : p = [] := by simpa [spl] using hp
    rw [this]; simp
  | b :: r, p, hp => by
    have ih := spl_mem c r
    have hn := spl_ne c r
    unfold spl at hp
    by_cases h : b = c
    · rw [if_pos h] at hp
      rcases List.mem_cons.1 hp with rfl | hp
      · simp
      · exact ih p hp
    · rw [if_neg h] at hp
      cases hs : spl c r with
      | nil => exact absurd hs hn
      | cons q t =>
        rw [hs] at hp ih
        rw [List.headD_cons, List.tail_cons] at hp
        rcases List.mem_cons.1 hp with rfl | hp
        · intro hc
          rcases List.mem_cons.1 hc with e | hc
          · exact h e.symm
          · exact ih q (by simp) hc
        · exact ih p (List.mem_cons_of_mem _ hp)
theorem spl_len (c : UInt8) (l : List UInt8) : (spl c l).length = l.count c + 1 := by
  induction l with
  | nil => rfl
  | cons b r ih =>
    unfold spl
    by_cases h : b = c
    · rw [if_pos h, List.length_cons, ih, h, List.count_cons_self]
    · rw [if_neg h, List.count_cons_of_ne h]
      cases hs : spl c r with
      | nil => exact absurd hs (spl_ne c r)
      | cons q t => rw [hs] at ih; simpa using ih
end Go.Proofs.YtmoodblpgnnenaaDoor.PLs
