/- Plain laws on waves: the ticks of a clean wave are those of the raw one; At; Long; Few. -/
import Derived.Test.YtedjjodnceinlaaDoorWvTks
namespace Go.Proofs.YtedjjodnceinlaaDoor.PWv
open Go.RowKit Go.Proofs.YtedjjodnceinlaaDoor.Kx Go.Proofs.YtedjjodnceinlaaDoor.PWe Go.Proofs.YtedjjodnceinlaaDoorW.PrintWords Go.Proofs.YtedjjodnceinlaaDoorW.PrintLast Go.Proofs.YtedjjodnceinlaaDoorW.PrintMore
set_option linter.unusedVariables false
set_option linter.unusedSimpArgs false
def rawT (l : List S46) : List Int := l.flatMap fun r => List.replicate r.f1.toNat (Go.bits .and .u8 r.f0 15)
def tickL (l : List S46) : List Int := l.flatMap fun r => List.replicate r.f1.toNat r.f0
theorem tickL_app (a b : List S46) : tickL (a ++ b) = tickL a ++ tickL b := by simp [tickL]
theorem tickL_one (r : S46) : tickL [r] = List.replicate r.f1.toNat r.f0 := by simp [tickL]
theorem tickL_len : ∀ (l : List S46), (∀ x ∈ l, (0 ≤ x.f0 ∧ x.f0 ≤ 15) ∧ 1 ≤ x.f1) → ((tickL l).length : Int) = sumT l
  | [], _ => rfl
  | r :: q, h => by
    have h1 := tickL_len q (fun x hx => h x (List.mem_cons_of_mem _ hx))
    have h2 := (h r (by simp)).2
    have e : tickL (r :: q) = List.replicate r.f1.toNat r.f0 ++ tickL q := by simp [tickL]
    rw [e, List.length_append, List.length_replicate, sumT_cons]
    omega
theorem put_tick {l : List S46} (h : WOK l) (a b : Int) {l' : List S46} {n : Int} (hp : wave_Wave_put.f l a b (sumT l) = some (l', n)) :
    tickL l' = tickL l ++ List.replicate (mn (mx b 0) (1048576 - sumT l)).toNat (Go.bits .and .u8 a 15) := by
  have hlen := sumT_len l h.each
  have hhi := h.hi
  have hw : wrap64 (1048576 - sumT l) = 1048576 - sumT l := w64 (by omega) (by omega)
  obtain ⟨t, ht⟩ : ∃ t, mn (mx b 0) (1048576 - sumT l) = t := ⟨_, rfl⟩
  have htb : 0 ≤ t ∧ t ≤ 1048576 - sumT l := by rw [← ht]; unfold mn mx; repeat' split <;> omega
  unfold wave_Wave_put.f at hp
  rw [hw, ht] at hp
  rw [ht]
  by_cases h0 : t = 0
  · rw [if_pos h0] at hp
    simp only [Option.some.injEq, Prod.mk.injEq] at hp
    obtain ⟨rfl, _⟩ := hp
    rw [h0]
    simp
  rw [if_neg h0] at hp
  obtain ⟨A, hA⟩ : ∃ x, Go.bits .and .u8 a 15 = x := ⟨_, rfl⟩
  rw [hA] at hp ⊢
  by_cases hl : (l.length : Int) > 0
  · have hw2 : wrap64 ((l.length : Int) - 1) = (l.length : Int) - 1 := w64 (by omega) (by omega)
    rw [if_pos hl, hw2, if_pos (by omega), if_pos (by omega)] at hp
    obtain ⟨pre, y, rfl⟩ : ∃ pre y, l = pre ++ [y] := by
      have hne : l ≠ [] := fun e => by rw [e] at hl; simp at hl
      exact ⟨l.dropLast, l.getLast hne, (List.dropLast_concat_getLast hne).symm⟩
    have hi : (((pre ++ [y]).length : Int) - 1).toNat = pre.length := by rw [List.length_append]; simp
    have hrd : rd_T46 (pre ++ [y]) (((pre ++ [y]).length : Int) - 1) = y := by
      unfold rd_T46
      rw [hi, List.getD_eq_getElem?_getD, List.getElem?_append_right (Nat.le_refl _), Nat.sub_self]
      rfl
    rw [hrd, hi] at hp
    have hy := h.each y (List.mem_append_right _ List.mem_cons_self)
    have hs : sumT (pre ++ [y]) = sumT pre + y.f1 := by rw [sumT_app]; show sumT pre + (y.f1 + 0) = _; omega
    have hpp := sumT_len pre fun x hx => h.each x (List.mem_append_left _ hx)
    by_cases he : y.f0 = A
    · have hw4 : wrap64 (y.f1 + t) = y.f1 + t := w64 (by omega) (by omega)
      rw [if_pos he, hw4] at hp
      have hset : (pre ++ [y]).set pre.length ⟨y.f0, y.f1 + t⟩ = pre ++ [⟨y.f0, y.f1 + t⟩] := by
        rw [List.set_append_right _ _ (Nat.le_refl _), Nat.sub_self]; rfl
      rw [hset] at hp
      simp only [Option.some.injEq, Prod.mk.injEq] at hp
      obtain ⟨rfl, _⟩ := hp
      rw [tickL_app, tickL_app, tickL_one, tickL_one, List.append_assoc]
      congr 1
      show List.replicate (y.f1 + t).toNat y.f0 = _
      rw [he, List.replicate_append_replicate]
      congr 1
      omega
    · rw [if_neg he, if_pos (by omega)] at hp
      simp only [Option.some.injEq, Prod.mk.injEq] at hp
      obtain ⟨rfl, _⟩ := hp
      rw [tickL_app (pre ++ [y]), tickL_one]
  · rw [if_neg hl, if_pos (by omega)] at hp
    simp only [Option.some.injEq, Prod.mk.injEq] at hp
    obtain ⟨rfl, _⟩ := hp
    rw [tickL_app, tickL_one]
theorem rawT_cons (r : S46) (q : List S46) : rawT (r :: q) = List.replicate r.f1.toNat (Go.bits .and .u8 r.f0 15) ++ rawT q := by simp [rawT]
theorem rd_at {l : List S46} {i : Nat} (h : i < l.length) : rd_T46 l (i : Int) = l[i] := by
  unfold rd_T46
  simp [h]
theorem join_tick (x15 : List S46) (hb : x15.length ≤ 100000) (n : Nat) : ∀ (k : Nat) (x : List S46) (i : Nat), x15.length - i = n → n + 3 ≤ k → i ≤ x15.length → WOK x → sumT x + ((rawT (x15.drop i)).length : Int) ≤ 1048576 →
    ∀ r, wave_Join.l1 k x (sumT x) [x15] 1 0 x15 (x15.length : Int) (i : Int) = some r → tickL r = tickL x ++ rawT (x15.drop i) := by
  induction n with
  | zero =>
    intro k x i hn hk hi h hs r hr
    obtain ⟨k, rfl⟩ : ∃ j, k = j + 1 + 1 := ⟨k - 2, by omega⟩
    rw [l1_end (by omega)] at hr
    obtain rfl := Option.some.inj hr
    rw [List.drop_eq_nil_of_le (by omega)]
    simp [rawT]
  | succ n ih =>
    intro k x i hn hk hi h hs r hr
    obtain ⟨k, rfl⟩ : ∃ j, k = j + 1 := ⟨k - 1, by omega⟩
    have hil : i < x15.length := by omega
    obtain ⟨l', h1, h2, h3, h4, _, _⟩ := put_ok h (rd_T46 x15 i).f0 (rd_T46 x15 i).f1
    rw [l1_step hil hb h1] at hr
    have ht := put_tick h _ _ h1
    rw [rd_at hil] at ht h3
    rw [List.drop_eq_getElem_cons hil, rawT_cons, List.length_append, List.length_replicate] at hs
    have hlen := sumT_len x h.each
    have hm : mn (mx x15[i].f1 0) (1048576 - sumT x) = (x15[i].f1.toNat : Int) := by unfold mn mx; repeat' split <;> omega
    rw [hm] at ht h3
    have := ih k l' (i + 1) (by omega) (by omega) (by omega) h2 (by omega) r hr
    rw [this, ht, List.drop_eq_getElem_cons hil, rawT_cons, List.append_assoc]
    rfl
theorem clean_tick {k : Nat} (l : List S46) (hk : l.length + 10 ≤ k) (hl : l.length ≤ 100000) (ht : (rawT l).length ≤ 1048576) {cl : List S46} (h : wave_Wave_Clean.f k l = some cl) : tickL cl = rawT l := by
  obtain ⟨k, rfl⟩ : ∃ j, k = j + 1 := ⟨k - 1, by omega⟩
  obtain ⟨r, h1, h2, h4⟩ := join_l1 l hl l.length k [] 0 (by omega) (by omega) (by omega) ⟨fun x hx => absurd hx (by simp), by decide⟩
  have h6 := join_tick l hl l.length k [] 0 (by omega) (by omega) (by omega) ⟨fun x hx => absurd hx (by simp), by decide⟩ (by show (0 : Int) + _ ≤ _; rw [List.drop_zero]; omega) r h1
  have hl1 : (([l] : List (List S46)).length : Int) = 1 := rfl
  unfold wave_Wave_Clean.f wave_Join.f wave_Join.l0 at h
  rw [hl1, if_pos (by omega), if_pos (by omega), if_pos (by omega)] at h
  have e : rd_L3 [l] 0 = l := rfl
  rw [e] at h
  have h5 : wave_Join.l1 k [] 0 [l] 1 0 l (l.length : Int) 0 = some r := h1
  rw [h5, Option.bind_some] at h
  obtain rfl := Option.some.inj h
  rw [h6]
  simp [tickL]
end Go.Proofs.YtedjjodnceinlaaDoor.PWv
