/- Parts of a memory in plain words: joined, free, counted, placed. Helper text. -/
import Derived.Test.YtpafcbbnjkmhaaaPLax0
namespace Go.Proofs.Ytpafcbbnjkmhaaa.PLa
open Go.RowKit
set_option linter.unusedVariables false
set_option linter.unusedSimpArgs false

abbrev Pt := S41
/-- May a part be? -/
def rt (p : Pt) : Prop := 0 ≤ p.f0 ∧ 1 ≤ p.f1 ∧ p.f1 ≤ 64 ∧ p.f0 ≤ 64 - p.f1
instance (p : Pt) : Decidable (rt p) := by unfold rt; infer_instance
/-- Is a place one of a part? -/
def inn (x : Int) (p : Pt) : Prop := p.f0 ≤ x ∧ x < p.f0 + p.f1
instance (x : Int) (p : Pt) : Decidable (inn x p) := by unfold inn; infer_instance
/-- Is a place one of some parts that may be? -/
def has (l : List Pt) (x : Int) : Prop := ∃ p ∈ l, rt p ∧ inn x p
instance (l : List Pt) (x : Int) : Decidable (has l x) := by unfold has; infer_instance
/-- Parts that may be, in order, none of which touch. -/
def gap (l : List Pt) : Prop := (∀ p ∈ l, rt p) ∧ l.Pairwise fun a b => a.f0 + a.f1 < b.f0
theorem has_nil (x : Int) : ¬ has [] x := fun ⟨_, h, _⟩ => by cases h
theorem has_cons {p : Pt} {l : List Pt} {x : Int} : has (p :: l) x ↔ (rt p ∧ inn x p) ∨ has l x := by simp [has]
theorem has_append {l r : List Pt} {x : Int} : has (l ++ r) x ↔ has l x ∨ has r x := by
  constructor
  · rintro ⟨p, hp, h⟩
    rcases List.mem_append.1 hp with q | q
    · exact .inl ⟨p, q, h⟩
    · exact .inr ⟨p, q, h⟩
  · rintro (⟨p, hp, h⟩ | ⟨p, hp, h⟩)
    · exact ⟨p, List.mem_append.2 (.inl hp), h⟩
    · exact ⟨p, List.mem_append.2 (.inr hp), h⟩
theorem has_perm {l r : List Pt} (h : l.Perm r) {x : Int} : has l x ↔ has r x := ⟨fun ⟨p, hp, q⟩ => ⟨p, h.mem_iff.1 hp, q⟩, fun ⟨p, hp, q⟩ => ⟨p, h.mem_iff.2 hp, q⟩⟩
theorem has_filter {l : List Pt} {x : Int} : has (l.filter fun p => decide (rt p)) x ↔ has l x :=
  ⟨fun ⟨p, hp, q⟩ => ⟨p, (List.mem_filter.1 hp).1, q⟩, fun ⟨p, hp, q⟩ => ⟨p, List.mem_filter.2 ⟨hp, decide_eq_true q.1⟩, q⟩⟩
theorem has_range {l : List Pt} {x : Int} (h : has l x) : 0 ≤ x ∧ x < 64 := by
  obtain ⟨p, _, r, i⟩ := h
  unfold rt at r
  unfold inn at i
  omega
theorem gap_tail {a : Pt} {l : List Pt} (h : gap (a :: l)) : gap l := ⟨fun p hp => h.1 p (List.mem_cons_of_mem _ hp), (List.pairwise_cons.1 h.2).2⟩
theorem gap_above {a : Pt} {l : List Pt} (h : gap (a :: l)) {x : Int} (hx : has l x) : a.f0 + a.f1 < x := by
  obtain ⟨p, hp, _, hi⟩ := hx
  have := (List.pairwise_cons.1 h.2).1 p hp
  unfold inn at hi
  omega
/-- Two lists of parts in order with the same places are the same. -/
theorem gap_eq : ∀ (A B : List Pt), gap A → gap B → (∀ x, has A x ↔ has B x) → A = B
  | [], [], _, _, _ => rfl
  | [], b :: B, _, hb, h => by
    have hr := hb.1 b List.mem_cons_self
    exact absurd ((h b.f0).2 (has_cons.2 (.inl ⟨hr, by unfold inn; unfold rt at hr; omega⟩))) (has_nil _)
  | a :: A, [], ha, _, h => by
    have hr := ha.1 a List.mem_cons_self
    exact absurd ((h a.f0).1 (has_cons.2 (.inl ⟨hr, by unfold inn; unfold rt at hr; omega⟩))) (has_nil _)
  | a :: A, b :: B, ha, hb, h => by
    have ra := ha.1 a List.mem_cons_self
    have rb := hb.1 b List.mem_cons_self
    have ra' := ra
    have rb' := rb
    unfold rt at ra' rb'
    have low : ∀ {c : Pt} {C : List Pt}, gap (c :: C) → ∀ {x}, has (c :: C) x → c.f0 ≤ x := fun {c C} hc {x} hx => by
      rcases has_cons.1 hx with q | q
      · exact q.2.1
      · have := gap_above hc q
        have r := hc.1 c List.mem_cons_self
        unfold rt at r
        omega
    have top : ∀ {c : Pt} {C : List Pt}, gap (c :: C) → ¬ has (c :: C) (c.f0 + c.f1) := fun {c C} hc hx => by
      rcases has_cons.1 hx with q | q
      · have := q.2.2
        omega
      · have := gap_above hc q
        omega
    have own : ∀ {c : Pt} {C : List Pt}, gap (c :: C) → ∀ {x}, c.f0 ≤ x → x < c.f0 + c.f1 → has (c :: C) x := fun {c C} hc {x} h1 h2 => has_cons.2 (.inl ⟨hc.1 c List.mem_cons_self, h1, h2⟩)
    have e0 : a.f0 = b.f0 := by
      have h1 := low hb ((h a.f0).1 (own ha (by omega) (by omega)))
      have h2 := low ha ((h b.f0).2 (own hb (by omega) (by omega)))
      omega
    have e1 : a.f1 = b.f1 := by
      by_cases q1 : a.f1 < b.f1
      · exact absurd ((h (a.f0 + a.f1)).2 (own hb (by omega) (by omega))) (top ha)
      · by_cases q2 : b.f1 < a.f1
        · exact absurd ((h (b.f0 + b.f1)).1 (own ha (by omega) (by omega))) (top hb)
        · omega
    have e : a = b := by cases a; cases b; simp_all
    subst e
    congr 1
    refine gap_eq A B (gap_tail ha) (gap_tail hb) fun x => ?_
    constructor
    · intro hx
      rcases has_cons.1 ((h x).1 (has_cons.2 (.inr hx))) with q | q
      · have := gap_above ha hx
        have := q.2.2
        omega
      · exact q
    · intro hx
      rcases has_cons.1 ((h x).2 (has_cons.2 (.inr hx))) with q | q
      · have := gap_above hb hx
        have := q.2.2
        omega
      · exact q
/-- Parts put together, the last ones first. -/
def jn : List Pt → List Pt → List Pt
  | acc, [] => acc
  | [], p :: r => jn [p] r
  | q :: acc, p :: r => if p.f0 ≤ q.f0 + q.f1 then jn (⟨q.f0, max (q.f0 + q.f1) (p.f0 + p.f1) - q.f0⟩ :: acc) r else jn (p :: q :: acc) r
def rgap (l : List Pt) : Prop := (∀ p ∈ l, rt p) ∧ l.Pairwise fun a b => b.f0 + b.f1 < a.f0
theorem rgap_rev {l : List Pt} (h : rgap l) : gap l.reverse := ⟨fun p hp => h.1 p (List.mem_reverse.1 hp), List.pairwise_reverse.2 h.2⟩
theorem jn_is : ∀ (r acc : List Pt), rgap acc → (∀ p ∈ r, rt p) → r.Pairwise (fun a b => a.f0 ≤ b.f0) → (∀ q ∈ acc, ∀ p ∈ r, q.f0 ≤ p.f0) → rgap (jn acc r) ∧ ∀ x, has (jn acc r) x ↔ has acc x ∨ has r x
  | [], acc, ha, _, _, _ => by
    cases acc <;> exact ⟨ha, fun x => ⟨.inl, fun h => h.elim id fun h => absurd h (has_nil x)⟩⟩
  | p :: r, [], ha, hr, hs, _ => by
    have hp := hr p List.mem_cons_self
    rw [jn]
    obtain ⟨g, h⟩ := jn_is r [p] ⟨fun q hq => by rw [List.mem_singleton.1 hq]; exact hp, List.pairwise_singleton _ _⟩ (fun q hq => hr q (List.mem_cons_of_mem _ hq)) (List.pairwise_cons.1 hs).2 (fun q hq y hy => by
      rw [List.mem_singleton.1 hq]
      exact (List.pairwise_cons.1 hs).1 y hy)
    refine ⟨g, fun x => ?_⟩
    rw [h x, has_cons, has_cons (l := r)]
    simp [has_nil]
  | p :: r, q :: acc, ha, hr, hs, hle => by
    have hp := hr p List.mem_cons_self
    have hq := ha.1 q List.mem_cons_self
    have hqp := hle q List.mem_cons_self p List.mem_cons_self
    have hp' := hp
    have hq' := hq
    unfold rt at hp' hq'
    obtain ⟨ha1, ha2⟩ := ha
    rw [List.pairwise_cons] at ha2
    rw [jn]
    split
    · rename_i hc
      have hn : rt ⟨q.f0, max (q.f0 + q.f1) (p.f0 + p.f1) - q.f0⟩ := by
        unfold rt
        dsimp only
        omega
      obtain ⟨g, h⟩ := jn_is r (⟨q.f0, max (q.f0 + q.f1) (p.f0 + p.f1) - q.f0⟩ :: acc)
        ⟨fun y hy => by
          rcases List.mem_cons.1 hy with rfl | hy
          · exact hn
          · exact ha1 y (List.mem_cons_of_mem _ hy), List.pairwise_cons.2 ⟨fun y hy => ha2.1 y hy, ha2.2⟩⟩
        (fun y hy => hr y (List.mem_cons_of_mem _ hy)) (List.pairwise_cons.1 hs).2 (fun y hy z hz => by
          rcases List.mem_cons.1 hy with rfl | hy
          · exact hle q List.mem_cons_self z (List.mem_cons_of_mem _ hz)
          · exact hle y (List.mem_cons_of_mem _ hy) z (List.mem_cons_of_mem _ hz))
      refine ⟨g, fun x => ?_⟩
      rw [h x, has_cons, has_cons, has_cons (l := r)]
      have : (rt ⟨q.f0, max (q.f0 + q.f1) (p.f0 + p.f1) - q.f0⟩ ∧ inn x ⟨q.f0, max (q.f0 + q.f1) (p.f0 + p.f1) - q.f0⟩) ↔ (rt q ∧ inn x q) ∨ (rt p ∧ inn x p) := by
        simp only [hn, hp, hq, true_and]
        unfold inn
        dsimp only
        omega
      rw [this]
      constructor
      · rintro (((h | h) | h) | h)
        · exact .inl (.inl h)
        · exact .inr (.inl h)
        · exact .inl (.inr h)
        · exact .inr (.inr h)
      · rintro ((h | h) | (h | h))
        · exact .inl (.inl (.inl h))
        · exact .inl (.inr h)
        · exact .inl (.inl (.inr h))
        · exact .inr h
    · rename_i hc
      obtain ⟨g, h⟩ := jn_is r (p :: q :: acc)
        ⟨fun y hy => by
          rcases List.mem_cons.1 hy with rfl | hy
          · exact hp
          · exact ha1 y hy, List.pairwise_cons.2 ⟨fun y hy => by
            rcases List.mem_cons.1 hy with rfl | hy
            · omega
            · have := ha2.1 y hy
              omega, List.pairwise_cons.2 ha2⟩⟩
        (fun y hy => hr y (List.mem_cons_of_mem _ hy)) (List.pairwise_cons.1 hs).2 (fun y hy z hz => by
          rcases List.mem_cons.1 hy with rfl | hy
          · exact (List.pairwise_cons.1 hs).1 z hz
          · exact hle y hy z (List.mem_cons_of_mem _ hz))
      refine ⟨g, fun x => ?_⟩
      rw [h x, has_cons, has_cons (l := r), has_cons]
      constructor
      · rintro ((h | h | h) | h)
        · exact .inr (.inl h)
        · exact .inl (.inl h)
        · exact .inl (.inr h)
        · exact .inr (.inr h)
      · rintro ((h | h) | (h | h))
        · exact .inl (.inr (.inl h))
        · exact .inl (.inr (.inr h))
        · exact .inl (.inl h)
        · exact .inr h
/-- Parts in order of where they begin. -/
def ins (p : Pt) : List Pt → List Pt
  | [] => [p]
  | q :: r => if p.f0 ≤ q.f0 then p :: q :: r else q :: ins p r
def isort : List Pt → List Pt
  | [] => []
  | p :: r => ins p (isort r)
theorem ins_perm (p : Pt) : ∀ l, (ins p l).Perm (p :: l)
  | [] => List.Perm.refl _
  | q :: r => by
    rw [ins]
    split
    · exact List.Perm.refl _
    · exact ((ins_perm p r).cons q).trans (List.Perm.swap p q r)
theorem isort_perm : ∀ l, (isort l).Perm l
  | [] => List.Perm.refl _
  | p :: r => (ins_perm p _).trans ((isort_perm r).cons p)
theorem ins_sorted (p : Pt) : ∀ l, l.Pairwise (fun a b => a.f0 ≤ b.f0) → (ins p l).Pairwise (fun a b => a.f0 ≤ b.f0)
  | [], _ => List.pairwise_singleton _ _
  | q :: r, h => by
    rw [ins]
    have hq := List.pairwise_cons.1 h
    split
    · rename_i c
      refine List.pairwise_cons.2 ⟨fun y hy => ?_, h⟩
      rcases List.mem_cons.1 hy with rfl | hy
      · exact c
      · exact Int.le_trans c (hq.1 y hy)
    · rename_i c
      refine List.pairwise_cons.2 ⟨fun y hy => ?_, ins_sorted p r hq.2⟩
      rcases List.mem_cons.1 ((ins_perm p r).mem_iff.1 hy) with rfl | hy
      · omega
      · exact hq.1 y hy
theorem isort_sorted : ∀ l, (isort l).Pairwise (fun a b => a.f0 ≤ b.f0)
  | [] => List.Pairwise.nil
  | p :: r => ins_sorted p _ (isort_sorted r)
/-- Parts that rise, of the same places, none of which touch. -/
def join (l : List Pt) : List Pt := (jn [] (isort (l.filter fun p => decide (rt p)))).reverse
theorem jn_any (l s : List Pt) (hp : s.Perm (l.filter fun p => decide (rt p))) (hs : s.Pairwise fun a b => a.f0 ≤ b.f0) : gap (jn [] s).reverse ∧ ∀ x, has (jn [] s).reverse x ↔ has l x := by
  obtain ⟨g, h⟩ := jn_is s [] ⟨fun p hp => (by cases hp), List.Pairwise.nil⟩ (fun p hq => of_decide_eq_true (List.mem_filter.1 (hp.mem_iff.1 hq)).2) hs (fun q hq => (by cases hq))
  refine ⟨rgap_rev g, fun x => ?_⟩
  rw [has_perm (List.reverse_perm _), h x, has_perm hp, has_filter]
  exact ⟨fun h => h.elim (fun h => absurd h (has_nil x)) id, .inr⟩
theorem join_is (l : List Pt) : gap (join l) ∧ ∀ x, has (join l) x ↔ has l x := jn_any l _ (isort_perm _) (isort_sorted _)
theorem join_uniq {l s : List Pt} (hp : s.Perm (l.filter fun p => decide (rt p))) (hs : s.Pairwise fun a b => a.f0 ≤ b.f0) : (jn [] s).reverse = join l :=
  gap_eq _ _ (jn_any l s hp hs).1 (join_is l).1 fun x => ((jn_any l s hp hs).2 x).trans ((join_is l).2 x).symm
/-- The parts beside some, from a place on. -/
def fr : Int → List Pt → List Pt
  | _, [] => []
  | at_, p :: r => if p.f0 > at_ then ⟨at_, p.f0 - at_⟩ :: fr (p.f0 + p.f1) r else fr (p.f0 + p.f1) r
def free (l : List Pt) : List Pt := fr 0 (join l ++ [⟨64, 0⟩])
theorem fr_is : ∀ (A : List Pt) (at_ : Int), gap A → 0 ≤ at_ → at_ ≤ 64 → (∀ p ∈ A, at_ ≤ p.f0) → gap (fr at_ (A ++ [⟨64, 0⟩])) ∧ (∀ p ∈ fr at_ (A ++ [⟨64, 0⟩]), at_ ≤ p.f0) ∧ ∀ x, has (fr at_ (A ++ [⟨64, 0⟩])) x ↔ at_ ≤ x ∧ x < 64 ∧ ¬ has A x
  | [], at_, _, h0, h1, _ => by
    rw [List.nil_append, fr]
    split
    · rename_i c
      dsimp only at c
      rw [fr]
      have r : rt ⟨at_, 64 - at_⟩ := by unfold rt; dsimp only; omega
      refine ⟨⟨fun p hp => by rw [List.mem_singleton.1 hp]; exact r, List.pairwise_singleton _ _⟩, fun p hp => by rw [List.mem_singleton.1 hp]; exact Int.le_refl _, fun x => ?_⟩
      rw [has_cons]
      simp only [r, has_nil, true_and, or_false, not_false_eq_true, and_true]
      unfold inn
      dsimp only
      omega
    · rename_i c
      dsimp only at c
      rw [fr]
      refine ⟨⟨fun p hp => (by cases hp), List.Pairwise.nil⟩, fun p hp => (by cases hp), fun x => ?_⟩
      simp only [has_nil, not_false_eq_true, and_true, false_iff]
      omega
  | p :: r, at_, g, h0, h1, hle => by
    have hp := g.1 p List.mem_cons_self
    have hp' := hp
    unfold rt at hp'
    have hap := hle p List.mem_cons_self
    have gp := (List.pairwise_cons.1 g.2).1
    obtain ⟨g', l', h'⟩ := fr_is r (p.f0 + p.f1) (gap_tail g) (by omega) (by omega) (fun q hq => Int.le_of_lt (gp q hq))
    rw [List.cons_append, fr]
    have main : ∀ x, has (fr (p.f0 + p.f1) (r ++ [⟨64, 0⟩])) x ↔ p.f0 ≤ x ∧ x < 64 ∧ ¬ has (p :: r) x := fun x => by
      rw [h' x, has_cons]
      simp only [hp, true_and]
      unfold inn
      constructor
      · rintro ⟨a, b, c⟩
        exact ⟨by omega, b, fun h => h.elim (fun h => by omega) c⟩
      · rintro ⟨a, b, c⟩
        refine ⟨?_, b, fun h => c (.inr h)⟩
        by_cases q : p.f0 + p.f1 ≤ x
        · exact q
        · exact absurd (.inl ⟨a, by omega⟩) c
    split
    · rename_i c
      have rn : rt ⟨at_, p.f0 - at_⟩ := by unfold rt; dsimp only; omega
      refine ⟨⟨fun y hy => ?_, List.pairwise_cons.2 ⟨fun y hy => ?_, g'.2⟩⟩, fun y hy => ?_, fun x => ?_⟩
      · rcases List.mem_cons.1 hy with rfl | hy
        · exact rn
        · exact g'.1 y hy
      · have := l' y hy
        dsimp only
        omega
      · rcases List.mem_cons.1 hy with rfl | hy
        · exact Int.le_refl _
        · have := l' y hy
          omega
      · rw [has_cons, main x]
        simp only [rn, true_and]
        have e : inn x ⟨at_, p.f0 - at_⟩ ↔ at_ ≤ x ∧ x < p.f0 := by
          unfold inn
          dsimp only
          omega
        rw [e]
        constructor
        · rintro (⟨a, b⟩ | ⟨a, b, d⟩)
          · refine ⟨a, by omega, fun h => ?_⟩
            rcases has_cons.1 h with q | q
            · have := q.2.1
              omega
            · have := gap_above g q
              omega
          · exact ⟨by omega, b, d⟩
        · rintro ⟨a, b, d⟩
          by_cases q : x < p.f0
          · exact .inl ⟨a, q⟩
          · exact .inr ⟨by omega, b, d⟩
    · rename_i c
      have e : at_ = p.f0 := by omega
      refine ⟨g', fun y hy => ?_, fun x => ?_⟩
      · have := l' y hy
        omega
      · rw [main x, e]
theorem free_is (l : List Pt) : gap (free l) ∧ ∀ x, has (free l) x ↔ 0 ≤ x ∧ x < 64 ∧ ¬ has l x := by
  obtain ⟨g, _, h⟩ := fr_is (join l) 0 (join_is l).1 (by omega) (by omega) (fun p hp => ((join_is l).1.1 p hp).1)
  exact ⟨g, fun x => by rw [free, h x, (join_is l).2 x]⟩
/-- How many places some have. -/
def tot : List Pt → Int
  | [] => 0
  | p :: r => p.f1 + tot r
def cnt (l : List Pt) : Nat := (List.range 64).countP fun n : Nat => decide (has l (n : Int))
theorem countP_or {α : Type} (p q : α → Bool) : ∀ L : List α, (∀ x ∈ L, ¬ (p x = true ∧ q x = true)) → L.countP (fun x => p x || q x) = L.countP p + L.countP q
  | [], _ => rfl
  | x :: L, h => by
    have ih := countP_or p q L fun y hy => h y (List.mem_cons_of_mem _ hy)
    have hx := h x List.mem_cons_self
    rw [List.countP_cons, List.countP_cons, List.countP_cons, ih]
    cases hp : p x <;> cases hq : q x <;> simp [hp, hq] at hx ⊢ <;> omega
theorem cnt_part (lo hi : Int) (h0 : 0 ≤ lo) (h1 : lo ≤ hi) : ∀ N : Nat, ((List.range N).countP fun n : Nat => decide (lo ≤ (n : Int) ∧ (n : Int) < hi) : Nat) = min hi N - min lo N
  | 0 => by simp; omega
  | N + 1 => by
    have ih := cnt_part lo hi h0 h1 N
    rw [List.range_succ, List.countP_append, Int.natCast_add, ih, List.countP_cons, List.countP_nil]
    by_cases c : lo ≤ (N : Int) ∧ (N : Int) < hi
    · rw [decide_eq_true c]
      simp
      omega
    · rw [decide_eq_false c]
      simp
      omega
theorem cnt_or (l a b : List Pt) (h : ∀ x, has l x ↔ has a x ∨ has b x) (hd : ∀ x, ¬ (has a x ∧ has b x)) : cnt l = cnt a + cnt b := by
  unfold cnt
  rw [← countP_or (fun n : Nat => decide (has a (n : Int))) (fun n : Nat => decide (has b (n : Int))) _ fun n _ h => hd n ⟨of_decide_eq_true h.1, of_decide_eq_true h.2⟩]
  congr 1
  funext n
  rw [Bool.eq_iff_iff]
  simp [h]
theorem cnt_not (l f : List Pt) (h : ∀ x, has f x ↔ 0 ≤ x ∧ x < 64 ∧ ¬ has l x) : cnt l + cnt f = 64 := by
  unfold cnt
  rw [← countP_or (fun n : Nat => decide (has l (n : Int))) (fun n : Nat => decide (has f (n : Int))) _ fun n _ q => ((h n).1 (of_decide_eq_true q.2)).2.2 (of_decide_eq_true q.1)]
  rw [List.countP_eq_length.2 fun n hn => ?_, List.length_range]
  have := List.mem_range.1 hn
  by_cases c : has l n
  · simp [c]
  · simp [c, (h n).2 ⟨by omega, by omega, c⟩]
theorem tot_gap : ∀ l, gap l → tot l = cnt l
  | [], _ => by
    rw [tot, cnt, List.countP_eq_zero.2 fun n _ => by simp [has_nil]]
    rfl
  | p :: r, g => by
    have hp := g.1 p List.mem_cons_self
    have hp' := hp
    unfold rt at hp'
    have one : cnt [p] = p.f1 := by
      have := cnt_part p.f0 (p.f0 + p.f1) (by omega) (by omega) 64
      unfold cnt
      have e : (fun n : Nat => decide (has [p] (n : Int))) = fun n : Nat => decide (p.f0 ≤ (n : Int) ∧ (n : Int) < p.f0 + p.f1) := by
        funext n
        rw [Bool.eq_iff_iff, decide_eq_true_iff, decide_eq_true_iff, has_cons]
        simp only [hp, has_nil, true_and, or_false]
        rfl
      rw [e, this]
      omega
    rw [tot, tot_gap r (gap_tail g), cnt_or (p :: r) [p] r (fun x => by rw [has_cons, has_cons]; simp [has_nil]) (fun x ⟨a, b⟩ => by
      have := gap_above g b
      rcases has_cons.1 a with q | q
      · have := q.2.2
        omega
      · exact has_nil _ q), Int.natCast_add, one]
/-- Where so many words lie in a free part (-1: nowhere). -/
def wi (p : Pt) (size align : Int) : Int := if (p.f0 + align - 1) / align * align + size > p.f0 + p.f1 then -1 else (p.f0 + align - 1) / align * align
theorem wi_is {p : Pt} {size align : Int} (hp : rt p) (ha : 1 ≤ align) (h : 0 ≤ wi p size align) : p.f0 ≤ wi p size align ∧ wi p size align + size ≤ p.f0 + p.f1 ∧ wi p size align % align = 0 := by
  unfold wi at h ⊢
  unfold rt at hp
  split at h
  · omega
  · rename_i c
    rw [if_neg c]
    have e := Int.mul_ediv_add_emod (p.f0 + align - 1) align
    have l := Int.emod_lt_of_pos (p.f0 + align - 1) (show 0 < align by omega)
    rw [Int.mul_comm] at e
    refine ⟨by omega, by omega, Int.mul_emod_left _ _⟩
/-- The first free part at which so many words lie tells where (-1: nowhere). -/
def spot (size align : Int) : List Pt → Int
  | [] => -1
  | p :: r => if 0 ≤ wi p size align then wi p size align else spot size align r
theorem spot_is {size align : Int} : ∀ {F : List Pt}, 0 ≤ spot size align F → ∃ p ∈ F, spot size align F = wi p size align
  | [], h => by rw [spot] at h; omega
  | p :: r, h => by
    rw [spot] at h ⊢
    split at h
    · rename_i c
      rw [if_pos c]
      exact ⟨p, List.mem_cons_self, rfl⟩
    · rename_i c
      rw [if_neg c]
      obtain ⟨q, hq, e⟩ := spot_is h
      exact ⟨q, List.mem_cons_of_mem _ hq, e⟩
/-- Do two parts have a place together? -/
def meets (a b : Pt) : Prop := rt a ∧ rt b ∧ a.f0 < b.f0 + b.f1 ∧ b.f0 < a.f0 + a.f1
theorem meets_comm {a b : Pt} : meets a b ↔ meets b a := ⟨fun ⟨x, y, z, u⟩ => ⟨y, x, u, z⟩, fun ⟨x, y, z, u⟩ => ⟨y, x, u, z⟩⟩
theorem meets_has {a : Pt} {l : List Pt} (h : ∀ x, inn x a → ¬ has l x) : ∀ q ∈ l, ¬ meets a q := fun q hq ⟨ra, rq, h1, h2⟩ => by
  unfold rt at ra
  have rq' := rq
  unfold rt at rq'
  by_cases c : a.f0 ≤ q.f0
  · exact h q.f0 ⟨c, h2⟩ ⟨q, hq, rq, by unfold inn; omega⟩
  · exact h a.f0 (by unfold inn; omega) ⟨q, hq, rq, by unfold inn; omega⟩
theorem apart_has {l t : List Pt} (h : ∀ p ∈ l, ∀ q ∈ t, ¬ meets p q) (x : Int) : ¬ (has t x ∧ has l x) := fun ⟨⟨q, hq, rq, iq⟩, ⟨p, hp, rp, ip⟩⟩ => by
  unfold inn at iq ip
  exact h p hp q hq ⟨rp, rq, by omega, by omega⟩
theorem gap_apart {l : List Pt} (h : gap l) : l.Pairwise fun a b => ¬ meets a b := h.2.imp fun {a b} hab ⟨_, _, _, h2⟩ => by omega
/-- Sizes placed one by one, beside what there is; none: one has no room. -/
def pl (align : Int) : List Pt → List Int → Option (List Pt)
  | all, [] => some all
  | all, s :: r => if spot s align (free all) < 0 then none else pl align (all ++ [⟨spot s align (free all), s⟩]) r
theorem pl_is {align : Int} (ha : 1 ≤ align) : ∀ (sizes : List Int) (all out : List Pt), (∀ s ∈ sizes, 1 ≤ s ∧ s ≤ 64) → pl align all sizes = some out →
    ∃ l, out = all ++ l ∧ l.map (·.f1) = sizes ∧ (∀ p ∈ l, rt p ∧ p.f0 % align = 0) ∧ l.Pairwise (fun a b => ¬ meets a b) ∧ ∀ p ∈ l, ∀ q ∈ all, ¬ meets p q
  | [], all, out, _, h => by
    rw [pl] at h
    obtain rfl := Option.some.inj h
    exact ⟨[], (List.append_nil _).symm, rfl, fun p hp => (by cases hp), List.Pairwise.nil, fun p hp => (by cases hp)⟩
  | s :: r, all, out, hs, h => by
    rw [pl] at h
    split at h
    · cases h
    · rename_i c
      have hs0 := hs s List.mem_cons_self
      obtain ⟨p, hp, e⟩ := spot_is (F := free all) (by omega : 0 ≤ spot s align (free all))
      have rp := (free_is all).1.1 p hp
      obtain ⟨w1, w2, w3⟩ := wi_is rp ha (by rw [← e]; omega : 0 ≤ wi p s align)
      rw [← e] at w1 w2 w3
      have rp' := rp
      unfold rt at rp'
      generalize spot s align (free all) = v at *
      have rn : rt ⟨v, s⟩ := by unfold rt; dsimp only; omega
      have hn : ∀ q ∈ all, ¬ meets ⟨v, s⟩ q := meets_has fun x hx hh => by
        unfold inn at hx
        dsimp only at hx
        have hf : has (free all) x := ⟨p, hp, rp, by unfold inn; omega⟩
        exact (((free_is all).2 x).1 hf).2.2 hh
      obtain ⟨l, rfl, e1, e2, e3, e4⟩ := pl_is ha r (all ++ [⟨v, s⟩]) out (fun y hy => hs y (List.mem_cons_of_mem _ hy)) h
      refine ⟨⟨v, s⟩ :: l, by rw [List.append_assoc]; rfl, by rw [List.map_cons, e1], fun y hy => ?_, List.pairwise_cons.2 ⟨fun y hy hm => ?_, e3⟩, fun y hy q hq => ?_⟩
      · rcases List.mem_cons.1 hy with rfl | hy
        · exact ⟨rn, w3⟩
        · exact e2 y hy
      · exact e4 y hy ⟨v, s⟩ (List.mem_append.2 (.inr List.mem_cons_self)) (meets_comm.1 hm)
      · rcases List.mem_cons.1 hy with rfl | hy
        · exact hn q hq
        · exact e4 y hy q (List.mem_append.2 (.inl hq))
/-- How many places some have. -/
def used (l : List Pt) : Int := tot (join l)
theorem used_cnt (l : List Pt) : used l = cnt l := by
  rw [used, tot_gap _ (join_is l).1]
  unfold cnt
  congr 2
  funext n
  rw [Bool.eq_iff_iff, decide_eq_true_iff, decide_eq_true_iff, (join_is l).2]
theorem used_free (l : List Pt) : used l + used (free l) = 64 := by
  rw [used_cnt, used_cnt]
  have := cnt_not l (free l) (free_is l).2
  omega
theorem used_append {t l : List Pt} (h : ∀ p ∈ l, ∀ q ∈ t, ¬ meets p q) : used (t ++ l) = used t + used l := by
  rw [used_cnt, used_cnt, used_cnt]
  have := cnt_or (t ++ l) t l (fun x => has_append) (apart_has h)
  omega
end Go.Proofs.Ytpafcbbnjkmhaaa.PLa
