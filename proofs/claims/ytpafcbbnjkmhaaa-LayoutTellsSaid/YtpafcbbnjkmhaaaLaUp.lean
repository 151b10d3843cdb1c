/- The printed functions of layout, in the plain words of LaPlain. Helper text. -/
import Derived.Test.YtpafcbbnjkmhaaaLaPlain
import Derived.Test.YtpafcbbnjkmhaaaPLax7
namespace Go.Proofs.Ytpafcbbnjkmhaaa.PLa
open Go.RowKit Go.Proofs.YtpafcbbnjkmhaaaW.PrintWords Go.Proofs.YtpafcbbnjkmhaaaW.PrintLast Go.Proofs.YtpafcbbnjkmhaaaW.PrintMore
set_option linter.unusedVariables false
set_option linter.unusedSimpArgs false

theorem wr {x : Int} (h0 : -9223372036854775808 ≤ x) (h1 : x < 9223372036854775808) : wrap64 x = x := by
  unfold wrap64
  omega
theorem up {i : Nat} (h : i < 9000000000000000000) : wrap64 ((i : Int) + 1) = ((i + 1 : Nat) : Int) := by
  rw [wr (by omega) (by omega)]
  omega
theorem rd_nat {l : List Pt} {i : Nat} (h : i < l.length) : rd_T41 l (i : Int) = l[i] := by
  unfold rd_T41
  rw [Int.toNat_natCast, List.getD_eq_getElem?_getD, List.getElem?_eq_getElem h]
  rfl
theorem drop_cons {l : List Pt} {i : Nat} (h : i < l.length) : l.drop i = l[i] :: l.drop (i + 1) := List.drop_eq_getElem_cons h
theorem right_f (p : Pt) : layout_Part_Right.f p.f0 p.f1 = some (decide (rt p)) := by
  unfold layout_Part_Right.f
  split
  · split
    · split
      · rw [wr (by omega) (by omega)]
        congr 1
        rw [Bool.eq_iff_iff, decide_eq_true_iff, decide_eq_true_iff]
        unfold rt
        omega
      · rw [decide_eq_false (by unfold rt; omega)]
    · rw [decide_eq_false (by unfold rt; omega)]
  · rw [decide_eq_false (by unfold rt; omega)]
/-- In the memory, maybe empty. -/
def B (p : Pt) : Prop := 0 ≤ p.f0 ∧ 0 ≤ p.f1 ∧ p.f0 + p.f1 ≤ 64
theorem B_rt {p : Pt} (h : rt p) : B p := by
  unfold rt at h
  unfold B
  omega
theorem end_f {p : Pt} (h : B p) : layout_Part_end.f p.f0 p.f1 = some (p.f0 + p.f1) := by
  unfold B at h
  unfold layout_Part_end.f
  rw [wr (by omega) (by omega)]
theorem meets_f (a b : Pt) : layout_Part_Meets.f a.f0 a.f1 b.f0 b.f1 = some true ↔ meets a b := by
  unfold layout_Part_Meets.f meets
  rw [right_f, right_f, Option.bind_some, Option.bind_some]
  by_cases ra : rt a
  · by_cases rb : rt b
    · simp only [ra, rb, decide_true, if_true, true_and]
      rw [end_f (B_rt ra), end_f (B_rt rb), Option.bind_some, Option.bind_some]
      split
      · simp only [Option.some.injEq, decide_eq_true_iff]
        omega
      · simp only [Option.some.injEq]
        constructor
        · intro h; cases h
        · intro h; omega
    · simp [ra, rb]
  · simp [ra]
theorem meets_no {a b : Pt} (h : ¬ meets a b) : layout_Part_Meets.f a.f0 a.f1 b.f0 b.f1 = some false := by
  have h2 := mt (meets_f a b).1 h
  unfold layout_Part_Meets.f at h2 ⊢
  rw [right_f, right_f, Option.bind_some, Option.bind_some] at h2 ⊢
  by_cases ra : rt a
  · by_cases rb : rt b
    · simp only [ra, rb, decide_true, if_true] at h2 ⊢
      rw [end_f (B_rt ra), end_f (B_rt rb), Option.bind_some, Option.bind_some] at h2 ⊢
      split
      · rename_i c
        rw [if_pos c] at h2
        congr 1
        cases hd : decide (b.f0 < a.f0 + a.f1)
        · rfl
        · exact absurd (by rw [hd]) h2
      · rfl
    · simp [ra, rb]
  · simp [ra]

theorem right_l0 : ∀ (d k i : Nat) (x3 l : List Pt), i + d = l.length → d < k → x3.length + d ≤ 100000 → l.length ≤ 100000 → layout_right.l0 k x3 l (l.length : Int) (i : Int) = some (x3 ++ (l.drop i).filter fun p => decide (rt p))
  | 0, k, i, x3, l, h, hk, _, _ => by
    obtain ⟨k, rfl⟩ : ∃ m, k = m + 1 := ⟨k - 1, by omega⟩
    simp only [layout_right.l0]
    rw [if_neg (by omega), List.drop_eq_nil_of_le (by omega), List.filter_nil, List.append_nil]
  | d + 1, k, i, x3, l, h, hk, h3, hl => by
    obtain ⟨k, rfl⟩ : ∃ m, k = m + 1 := ⟨k - 1, by omega⟩
    have hi : i < l.length := by omega
    simp only [layout_right.l0]
    rw [if_pos (by omega), if_pos (by omega), if_pos (by omega), rd_nat hi, right_f, Option.bind_some, drop_cons hi, up (by omega)]
    by_cases c : rt l[i]
    · rw [if_pos (decide_eq_true c), if_pos (by omega), List.filter_cons_of_pos (p := fun p => decide (rt p)) (decide_eq_true c)]
      rw [right_l0 d k (i + 1) _ l (by omega) (by omega) (by rw [List.length_append, List.length_singleton]; omega) hl, List.append_assoc]
      rfl
    · rw [if_neg (by rw [decide_eq_false c]; decide), List.filter_cons_of_neg (p := fun p => decide (rt p)) (by rw [decide_eq_false c]; decide)]
      exact right_l0 d k (i + 1) _ l (by omega) (by omega) (by omega) hl
/-- The parts that may be, as right leaves them. -/
def rgt (l : List Pt) : List Pt := srt (l.filter fun p => decide (rt p))
theorem rgt_is (l : List Pt) : (rgt l).Perm (l.filter fun p => decide (rt p)) ∧ (rgt l).Pairwise fun a b => a.f0 ≤ b.f0 := srt_is fun p hp => by
  have := of_decide_eq_true (List.mem_filter.1 hp).2
  unfold rt at this
  omega
theorem rgt_rt {l : List Pt} : ∀ p ∈ rgt l, rt p := fun p hp => of_decide_eq_true (List.mem_filter.1 ((rgt_is l).1.mem_iff.1 hp)).2
theorem rgt_len (l : List Pt) : (rgt l).length ≤ l.length := by
  rw [(rgt_is l).1.length_eq]
  exact List.length_filter_le _ _
theorem right_is {k : Nat} {l : List Pt} (hk : l.length < k) (hl : l.length ≤ 100000) : layout_right.f k l = some (rgt l) := by
  unfold layout_right.f
  rw [show (0 : Int) = ((0 : Nat) : Int) from rfl, right_l0 l.length k 0 [] l (by omega) hk (by simp; omega) hl]
  rfl
theorem rev_last {q : Pt} {acc : List Pt} : rd_T41 (q :: acc).reverse ((acc.length : Nat) : Int) = q := by
  rw [rd_nat (by simp)]
  simp
theorem join_l0 : ∀ (d k i : Nat) (acc S : List Pt), i + d = S.length → 2 * d < k → acc.length + d ≤ 100000 → S.length ≤ 100000 → (∀ p ∈ acc, B p) → (∀ p ∈ S, B p) →
    layout_Join.l0 k acc.reverse S (S.length : Int) (i : Int) = some (jn acc (S.drop i)).reverse
  | 0, k, i, acc, S, h, hk, _, _, _, _ => by
    obtain ⟨k, rfl⟩ : ∃ m, k = m + 1 := ⟨k - 1, by omega⟩
    simp only [layout_Join.l0]
    rw [if_neg (by omega), List.drop_eq_nil_of_le (by omega)]
    cases acc <;> rfl
  | d + 1, k, i, acc, S, h, hk, h3, hl, ha, hs => by
    obtain ⟨k, rfl⟩ : ∃ m, k = m + 2 := ⟨k - 2, by omega⟩
    have hi : i < S.length := by omega
    have hp : B S[i] := hs _ (List.getElem_mem hi)
    rw [drop_cons hi]
    generalize hpe : S[i] = p at *
    simp only [layout_Join.l0]
    rw [if_pos (by omega), if_pos (by omega), if_pos (by omega), rd_nat hi, hpe, List.length_reverse]
    cases acc with
    | nil =>
      rw [if_neg (by rw [wr (by simp) (by simp)]; simp)]
      simp only [layout_Join.j1]
      rw [if_neg (by decide), if_pos (by simp), up (by omega), jn]
      have := join_l0 d k (i + 1) [p] S (by omega) (by omega) (by simp at h3 ⊢; omega) hl (fun q hq => by rw [List.mem_singleton.1 hq]; exact hp) hs
      exact this
    | cons q acc =>
      have hq := ha q List.mem_cons_self
      have e1 : wrap64 (((q :: acc).length : Int) - 1) = ((acc.length : Nat) : Int) := by
        rw [wr (by omega) (by simp at h3 ⊢; omega)]
        simp
      rw [e1, if_pos (by omega), if_pos (by omega), if_pos (by simp; omega), rev_last, end_f hq, Option.bind_some]
      simp only [layout_Join.j1]
      rw [up (by omega), jn]
      by_cases c : p.f0 ≤ q.f0 + q.f1
      · rw [if_pos c, if_pos (decide_eq_true c), if_pos (by omega), if_pos (by simp; omega), rev_last, end_f hq, Option.bind_some, end_f hp, Option.bind_some]
        have hn : B ⟨q.f0, max (q.f0 + q.f1) (p.f0 + p.f1) - q.f0⟩ := by
          unfold B at hq hp ⊢
          dsimp only
          omega
        have e2 : wrap64 (mx (q.f0 + q.f1) (p.f0 + p.f1) - q.f0) = max (q.f0 + q.f1) (p.f0 + p.f1) - q.f0 := by
          unfold B at hq hp
          unfold mx
          split
          · rw [wr (by omega) (by omega)]
            omega
          · rw [wr (by omega) (by omega)]
            omega
        rw [e2, Int.toNat_natCast]
        have e3 : (q :: acc).reverse.set acc.length ⟨q.f0, max (q.f0 + q.f1) (p.f0 + p.f1) - q.f0⟩ = (⟨q.f0, max (q.f0 + q.f1) (p.f0 + p.f1) - q.f0⟩ :: acc).reverse := by
          rw [List.reverse_cons, List.set_append_right _ _ (by simp), List.length_reverse, Nat.sub_self]
          simp
        rw [e3]
        exact join_l0 d k (i + 1) _ S (by omega) (by omega) (by simp at h3 ⊢; omega) hl (fun y hy => by
          rcases List.mem_cons.1 hy with rfl | hy
          · exact hn
          · exact ha y (List.mem_cons_of_mem _ hy)) hs
      · rw [if_neg c, if_neg (by rw [decide_eq_false (by omega)]; decide), if_pos (by simp at h3 ⊢; omega)]
        have := join_l0 d k (i + 1) (p :: q :: acc) S (by omega) (by omega) (by simp at h3 ⊢; omega) hl (fun y hy => by
          rcases List.mem_cons.1 hy with rfl | hy
          · exact hp
          · exact ha y hy) hs
        rw [← this, List.reverse_cons (a := p)]
theorem join_f {k : Nat} {l : List Pt} (hk : 2 * l.length < k) (hl : l.length ≤ 50000) : layout_Join.f k l = some (join l) := by
  have hn := rgt_len l
  unfold layout_Join.f
  rw [right_is (by omega) (by omega), Option.bind_some, ← join_uniq (rgt_is l).1 (rgt_is l).2]
  exact join_l0 (rgt l).length k 0 [] (rgt l) (by omega) (by omega) (by simp; omega) (by omega) (fun p hp => by cases hp) fun p hp => B_rt (rgt_rt p hp)
theorem fr_l0 : ∀ (d k i : Nat) (x3 L : List Pt) (a : Int), i + d = L.length → 2 * d < k → x3.length + d ≤ 100000 → L.length ≤ 100000 → 0 ≤ a → a ≤ 64 → (∀ p ∈ L, B p) →
    layout_Free.l0 k x3 a L (L.length : Int) (i : Int) = some (x3 ++ fr a (L.drop i))
  | 0, k, i, x3, L, a, h, hk, _, _, _, _, _ => by
    obtain ⟨k, rfl⟩ : ∃ m, k = m + 1 := ⟨k - 1, by omega⟩
    simp only [layout_Free.l0]
    rw [if_neg (by omega), List.drop_eq_nil_of_le (by omega), fr, List.append_nil]
  | d + 1, k, i, x3, L, a, h, hk, h3, hl, h0, h1, hs => by
    obtain ⟨k, rfl⟩ : ∃ m, k = m + 2 := ⟨k - 2, by omega⟩
    have hi : i < L.length := by omega
    have hp : B L[i] := hs _ (List.getElem_mem hi)
    rw [drop_cons hi]
    generalize hpe : L[i] = p at *
    have hb := hp
    unfold B at hb
    simp only [layout_Free.l0]
    rw [if_pos (by omega), if_pos (by omega), if_pos (by omega), rd_nat hi, hpe, fr]
    by_cases c : p.f0 > a
    · rw [if_pos c, if_pos c, if_pos (by omega), wr (by omega) (by omega)]
      simp only [layout_Free.j1]
      rw [end_f hp, Option.bind_some, up (by omega), fr_l0 d k (i + 1) _ L _ (by omega) (by omega) (by rw [List.length_append, List.length_singleton]; omega) hl (by omega) (by omega) hs, List.append_assoc]
      rfl
    · rw [if_neg c, if_neg c]
      simp only [layout_Free.j1]
      rw [end_f hp, Option.bind_some, up (by omega)]
      exact fr_l0 d k (i + 1) _ L _ (by omega) (by omega) (by omega) hl (by omega) (by omega) hs
theorem jn_len : ∀ (r acc : List Pt), (jn acc r).length ≤ acc.length + r.length
  | [], acc => by cases acc <;> simp [jn]
  | p :: r, [] => by
    rw [jn]
    have := jn_len r [p]
    simp at this ⊢
    omega
  | p :: r, q :: acc => by
    rw [jn]
    split
    · have := jn_len r (⟨q.f0, max (q.f0 + q.f1) (p.f0 + p.f1) - q.f0⟩ :: acc)
      simp at this ⊢
      omega
    · have := jn_len r (p :: q :: acc)
      simp at this ⊢
      omega
theorem join_len (l : List Pt) : (join l).length ≤ l.length := by
  rw [← join_uniq (rgt_is l).1 (rgt_is l).2, List.length_reverse]
  have := jn_len (rgt l) []
  have := rgt_len l
  simp at *
  omega
theorem free_f {k : Nat} {l : List Pt} (hk : 2 * l.length + 2 < k) (hl : l.length ≤ 50000) : layout_Free.f k l = some (free l) := by
  have hn := join_len l
  unfold layout_Free.f
  rw [join_f (by omega) hl, Option.bind_some, if_pos (by omega), Option.bind_some]
  refine (fr_l0 (join l ++ [(⟨64, 0⟩ : Pt)]).length k 0 [] (join l ++ [(⟨64, 0⟩ : Pt)]) 0 (by omega) (by simp; omega) (by simp; omega) (by simp; omega) (by omega) (by omega) fun p hp => ?_)
  rcases List.mem_append.1 hp with q | q
  · exact B_rt ((join_is l).1.1 p q)
  · rw [List.mem_singleton.1 q]
    unfold B
    decide
theorem fr_len : ∀ (L : List Pt) (a : Int), (fr a L).length ≤ L.length
  | [], a => by rw [fr]; simp
  | p :: r, a => by
    rw [fr]
    have := fr_len r (p.f0 + p.f1)
    split <;> simp <;> omega
theorem free_len (l : List Pt) : (free l).length ≤ l.length + 1 := by
  have := fr_len (join l ++ [⟨64, 0⟩]) 0
  have := join_len l
  unfold free
  simp at *
  omega
theorem within_f {p : Pt} {s a : Int} (hp : rt p) (hs0 : 1 ≤ s) (hs1 : s ≤ 64) (ha0 : 1 ≤ a) (ha1 : a ≤ 64) : layout_Part_within.f p.f0 p.f1 s a = some (wi p s a) := by
  have hp' := hp
  unfold rt at hp'
  unfold layout_Part_within.f wi
  have e0 : wrap64 (wrap64 (p.f0 + a) - 1) = p.f0 + a - 1 := by
    rw [wr (x := p.f0 + a) (by omega) (by omega), wr (by omega) (by omega)]
  have e1 := Int.mul_ediv_add_emod (p.f0 + a - 1) a
  have e2 := Int.emod_lt_of_pos (p.f0 + a - 1) (show 0 < a by omega)
  have e3 := Int.emod_nonneg (p.f0 + a - 1) (show a ≠ 0 by omega)
  rw [Int.mul_comm] at e1
  have e4 : Int.tdiv (p.f0 + a - 1) a = (p.f0 + a - 1) / a := Int.tdiv_eq_ediv_of_nonneg (by omega)
  have e5 : 0 ≤ (p.f0 + a - 1) / a := Int.ediv_nonneg (by omega) (by omega)
  have e6 : (p.f0 + a - 1) / a ≤ p.f0 + a - 1 := Int.ediv_le_self a (by omega)
  rw [if_neg (by omega), end_f (B_rt hp), Option.bind_some, e0, e4, wr (x := (p.f0 + a - 1) / a) (by omega) (by omega)]
  generalize (p.f0 + a - 1) / a * a = v at *
  rw [wr (x := v) (by omega) (by omega), wr (x := v + s) (by omega) (by omega)]
  split
  · rfl
  · rfl
theorem spot_l0 {s a : Int} (hs0 : 1 ≤ s) (hs1 : s ≤ 64) (ha0 : 1 ≤ a) (ha1 : a ≤ 64) : ∀ (d k i : Nat) (F : List Pt), i + d = F.length → d < k → F.length ≤ 100000 → (∀ p ∈ F, rt p) →
    layout_spot.l0 k s a F (F.length : Int) (i : Int) = some (spot s a (F.drop i))
  | 0, k, i, F, h, hk, _, _ => by
    obtain ⟨k, rfl⟩ : ∃ m, k = m + 1 := ⟨k - 1, by omega⟩
    simp only [layout_spot.l0]
    rw [if_neg (by omega), List.drop_eq_nil_of_le (by omega), spot]
  | d + 1, k, i, F, h, hk, hl, hF => by
    obtain ⟨k, rfl⟩ : ∃ m, k = m + 1 := ⟨k - 1, by omega⟩
    have hi : i < F.length := by omega
    simp only [layout_spot.l0]
    rw [if_pos (by omega), if_pos (by omega), if_pos (by omega), rd_nat hi, within_f (hF _ (List.getElem_mem hi)) hs0 hs1 ha0 ha1, Option.bind_some, drop_cons hi, up (by omega), spot]
    split
    · rfl
    · exact spot_l0 hs0 hs1 ha0 ha1 d k (i + 1) F (by omega) (by omega) hl hF
theorem spot_f {k : Nat} {s a : Int} {l : List Pt} (hs0 : 1 ≤ s) (hs1 : s ≤ 64) (ha0 : 1 ≤ a) (ha1 : a ≤ 64) (hk : 2 * l.length + 2 < k) (hl : l.length ≤ 50000) : layout_spot.f k s a l = some (spot s a (free l)) := by
  have := free_len l
  unfold layout_spot.f
  rw [free_f hk hl, Option.bind_some]
  exact spot_l0 hs0 hs1 ha0 ha1 (free l).length k 0 (free l) (by omega) (by omega) (by omega) (free_is l).1.1
theorem used_l0 : ∀ (d k i : Nat) (x : Int) (L : List Pt), i + d = L.length → d < k → L.length ≤ 100000 → (∀ p ∈ L, B p) → 0 ≤ x → x ≤ 64 * i →
    layout_Used.l0 k x L (L.length : Int) (i : Int) = some (x + tot (L.drop i))
  | 0, k, i, x, L, h, hk, _, _, _, _ => by
    obtain ⟨k, rfl⟩ : ∃ m, k = m + 1 := ⟨k - 1, by omega⟩
    simp only [layout_Used.l0]
    rw [if_neg (by omega), List.drop_eq_nil_of_le (by omega), tot, Int.add_zero]
  | d + 1, k, i, x, L, h, hk, hl, hL, h0, h1 => by
    obtain ⟨k, rfl⟩ : ∃ m, k = m + 1 := ⟨k - 1, by omega⟩
    have hi : i < L.length := by omega
    have hp : B L[i] := hL _ (List.getElem_mem hi)
    unfold B at hp
    simp only [layout_Used.l0]
    rw [if_pos (by omega), if_pos (by omega), if_pos (by omega), rd_nat hi, drop_cons hi, up (by omega), tot, wr (by omega) (by omega), used_l0 d k (i + 1) _ L (by omega) (by omega) hl hL (by omega) (by omega), Int.add_assoc]
theorem used_f {k : Nat} {l : List Pt} (hk : 2 * l.length < k) (hl : l.length ≤ 50000) : layout_Used.f k l = some (used l) := by
  have := join_len l
  unfold layout_Used.f used
  rw [join_f hk hl, Option.bind_some]
  have := used_l0 (join l).length k 0 0 (join l) (by omega) (by omega) (by omega) (fun p hp => B_rt ((join_is l).1.1 p hp)) (by omega) (by omega)
  rw [List.drop_zero, Int.zero_add] at this
  exact this
end Go.Proofs.Ytpafcbbnjkmhaaa.PLa
