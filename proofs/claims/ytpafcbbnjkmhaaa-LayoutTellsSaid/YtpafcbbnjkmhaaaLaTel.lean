/- Runs of places, pairs that meet: the program's way and the reference's come to the same. Helper text. -/
import Derived.Test.YtpafcbbnjkmhaaaLaOne
import Derived.Test.YtpafcbbnjkmhaaaPLaxS
import Derived.Test.YtpafcbbnjkmhaaaLaRefN
import Derived.Test.YtpafcbbnjkmhaaaPLaxO
namespace Go.Proofs.Ytpafcbbnjkmhaaa.PLa
open Go.RowKit Go.Proofs.YtpafcbbnjkmhaaaW.PrintWords Go.Proofs.YtpafcbbnjkmhaaaW.PrintLast Go.Proofs.YtpafcbbnjkmhaaaW.PrintMore
set_option linter.unusedVariables false
set_option linter.unusedSimpArgs false

def cv (p : Pt) : S40 := ⟨p.f0, p.f1⟩
theorem mapF_has (l : List Pt) (x : Nat) : mapF (l.map cv) x = decide (has l (x : Int)) := by
  rw [Bool.eq_iff_iff, decide_eq_true_iff]
  unfold mapF has
  rw [List.any_eq_true]
  constructor
  · rintro ⟨q, hq, h⟩
    obtain ⟨p, hp, rfl⟩ := List.mem_map.1 hq
    obtain ⟨h1, h2, h3⟩ := of_decide_eq_true h
    exact ⟨p, hp, h1, h2, h3⟩
  · rintro ⟨p, hp, h1, h2, h3⟩
    exact ⟨cv p, List.mem_map_of_mem hp, decide_eq_true ⟨h1, h2, h3⟩⟩
theorem own_l0 : ∀ (d k i : Nat) (x : List S40) (l : List Pt), i + d = l.length → d < k → x.length + d ≤ 100000 → l.length ≤ 100000 → busbarlaw42_Own.l0 k l x (i : Int) = some (x ++ (l.drop i).map cv)
  | 0, k, i, x, l, h, hk, _, _ => by
    obtain ⟨k, rfl⟩ : ∃ m, k = m + 1 := ⟨k - 1, by omega⟩
    rw [busbarlaw42_Own.l0]
    rw [if_neg (by omega), List.drop_eq_nil_of_le (by omega), List.map_nil, List.append_nil]
  | d + 1, k, i, x, l, h, hk, h3, hl => by
    obtain ⟨k, rfl⟩ : ∃ m, k = m + 1 := ⟨k - 1, by omega⟩
    have hi : i < l.length := by omega
    rw [busbarlaw42_Own.l0]
    rw [if_pos (by omega), if_pos (by omega), if_pos (by omega), rd_nat hi, up (by omega), own_l0 d k (i + 1) _ l (by omega) (by omega) (by rw [List.length_append, List.length_singleton]; omega) hl, drop_cons hi, List.map_cons, List.append_assoc]
    rfl
theorem own_f {k : Nat} {l : List Pt} (hk : l.length < k) (hl : l.length ≤ 50000) : busbarlaw42_Own.f k l = some (l.map cv) := by
  unfold busbarlaw42_Own.f
  rw [show (0 : Int) = ((0 : Nat) : Int) from rfl, own_l0 l.length k 0 [] l (by omega) hk (by simp; omega) (by omega)]
  rfl
theorem same_l0 {l : List Pt} (hl : l.length ≤ 100000) : ∀ (d k i : Nat), i + d = l.length → d < k → busbarlaw42_same.l0 k l (l.map cv) (i : Int) = some true
  | 0, k, i, h, hk => by
    obtain ⟨k, rfl⟩ : ∃ m, k = m + 1 := ⟨k - 1, by omega⟩
    rw [busbarlaw42_same.l0]
    rw [if_neg (by omega)]
  | d + 1, k, i, h, hk => by
    obtain ⟨k, rfl⟩ : ∃ m, k = m + 1 := ⟨k - 1, by omega⟩
    have hi : i < l.length := by omega
    have e : rd_T40 (l.map cv) (i : Int) = cv l[i] := by
      rw [rd40_nat (by rw [List.length_map]; exact hi)]
      simp
    rw [busbarlaw42_same.l0]
    rw [if_pos (by omega), if_pos (by omega), if_pos (by rw [List.length_map]; omega), rd_nat hi, e, if_neg (by simp [cv]), up (by omega)]
    exact same_l0 hl d k (i + 1) (by omega) (by omega)
theorem same_f {k : Nat} {l : List Pt} (hk : l.length < k) (hl : l.length ≤ 50000) : busbarlaw42_same.f k l (l.map cv) = some true := by
  unfold busbarlaw42_same.f
  rw [if_pos (by rw [List.length_map])]
  exact same_l0 (by omega) l.length k 0 (by omega) hk
theorem rdl {m : Nat → Bool} {i : Nat} (h : i < 64) : rdOf false (lst m) (i : Int) = m i := by
  unfold rdOf lst
  rw [Int.toNat_natCast, List.getD_eq_getElem?_getD, List.getElem?_eq_getElem (by simpa using h)]
  simp
/-- Parts up to a place, in order, none of which touch: those places that are so. -/
structure Runs (m : Nat → Bool) (b : Bool) (A : List Pt) (i : Nat) : Prop where
  gp : gap A
  up_ : ∀ p ∈ A, p.f0 + p.f1 ≤ i
  is : ∀ x : Nat, has A x ↔ x < i ∧ m x = b
theorem runs_skip {m : Nat → Bool} {b : Bool} {A : List Pt} {i : Nat} (h : Runs m b A i) (hm : m i ≠ b) : Runs m b A (i + 1) where
  gp := h.gp
  up_ := fun p hp => by
    have := h.up_ p hp
    omega
  is := fun x => by
    rw [h.is x]
    constructor
    · rintro ⟨a, c⟩
      exact ⟨by omega, c⟩
    · rintro ⟨a, c⟩
      refine ⟨?_, c⟩
      rcases Nat.lt_or_ge x i with q | q
      · exact q
      · obtain rfl : x = i := by omega
        exact absurd c hm
theorem has_one {p : Pt} {x : Int} : has [p] x ↔ rt p ∧ inn x p := by
  rw [has_cons]
  simp [has_nil]
theorem runs_new {m : Nat → Bool} {b : Bool} {A : List Pt} {i : Nat} (h : Runs m b A i) (hm : m i = b) (hi : i < 64) (hn : ∀ j, j + 1 = i → m j ≠ b) : Runs m b (A ++ [⟨(i : Int), 1⟩]) (i + 1) where
  gp := by
    refine ⟨fun p hp => ?_, List.pairwise_append.2 ⟨h.gp.2, List.pairwise_singleton _ _, fun a ha q hq => ?_⟩⟩
    · rcases List.mem_append.1 hp with q | q
      · exact h.gp.1 p q
      · rw [List.mem_singleton.1 q]
        unfold rt
        dsimp only
        omega
    · rw [List.mem_singleton.1 hq]
      dsimp only
      have h1 := h.up_ a ha
      have ra := h.gp.1 a ha
      have ra' := ra
      unfold rt at ra'
      by_cases e : a.f0 + a.f1 = i
      · exfalso
        have hh : has A ((a.f0 + a.f1 - 1).toNat : Int) := ⟨a, ha, ra, by unfold inn; omega⟩
        exact hn (a.f0 + a.f1 - 1).toNat (by omega) ((h.is _).1 hh).2
      · omega
  up_ := fun p hp => by
    rcases List.mem_append.1 hp with q | q
    · have := h.up_ p q
      omega
    · rw [List.mem_singleton.1 q]
      dsimp only
      omega
  is := fun x => by
    rw [has_append, h.is x, has_one]
    have e : (rt ⟨(i : Int), 1⟩ ∧ inn (x : Int) ⟨(i : Int), 1⟩) ↔ x = i := by
      unfold rt inn
      dsimp only
      omega
    rw [e]
    constructor
    · rintro (⟨a, c⟩ | rfl)
      · exact ⟨by omega, c⟩
      · exact ⟨by omega, hm⟩
    · rintro ⟨a, c⟩
      by_cases q : x = i
      · exact .inr q
      · exact .inl ⟨by omega, c⟩
theorem runs_more {m : Nat → Bool} {b : Bool} {A : List Pt} {i : Nat} (h : Runs m b A i) (hm : m i = b) (hi : i < 64) {j : Nat} (hj : j + 1 = i) (hn : m j = b) : ∃ A' p, A = A' ++ [p] ∧ Runs m b (A' ++ [⟨p.f0, p.f1 + 1⟩]) (i + 1) := by
  obtain ⟨p, hp, rp, ip⟩ := (h.is j).2 ⟨by omega, hn⟩
  have hpi : p.f0 + p.f1 = i := by
    have := h.up_ p hp
    have := ip.2
    omega
  have hne : A ≠ [] := fun e => by rw [e] at hp; cases hp
  obtain ⟨A', q, rfl⟩ : ∃ A' q, A = A' ++ [q] := ⟨A.dropLast, A.getLast hne, (List.dropLast_concat_getLast hne).symm⟩
  have hpw := List.pairwise_append.1 h.gp.2
  have e : p = q := by
    rcases List.mem_append.1 hp with c | c
    · have h1 := hpw.2.2 p c q List.mem_cons_self
      have h2 := h.up_ q (List.mem_append.2 (.inr List.mem_cons_self))
      have h3 := h.gp.1 q (List.mem_append.2 (.inr List.mem_cons_self))
      unfold rt at h3
      omega
    · exact List.mem_singleton.1 c
  subst e
  have rp' := rp
  unfold rt at rp'
  have rn : rt ⟨p.f0, p.f1 + 1⟩ := by
    unfold rt
    dsimp only
    omega
  refine ⟨A', p, rfl, ⟨fun q hq => ?_, List.pairwise_append.2 ⟨hpw.1, List.pairwise_singleton _ _, fun a ha q hq => ?_⟩⟩, fun q hq => ?_, fun x => ?_⟩
  · rcases List.mem_append.1 hq with c | c
    · exact h.gp.1 q (List.mem_append.2 (.inl c))
    · rw [List.mem_singleton.1 c]
      exact rn
  · rw [List.mem_singleton.1 hq]
    exact hpw.2.2 a ha p List.mem_cons_self
  · rcases List.mem_append.1 hq with c | c
    · have := h.up_ q (List.mem_append.2 (.inl c))
      omega
    · rw [List.mem_singleton.1 c]
      dsimp only
      omega
  · have hx := h.is x
    rw [has_append, has_one] at hx
    rw [has_append, has_one]
    have e1 : inn (x : Int) ⟨p.f0, p.f1 + 1⟩ ↔ inn (x : Int) p ∨ x = i := by
      unfold inn
      dsimp only
      omega
    rw [e1]
    constructor
    · rintro (c | ⟨_, c | c⟩)
      · have := hx.1 (.inl c)
        exact ⟨by omega, this.2⟩
      · have := hx.1 (.inr ⟨rp, c⟩)
        exact ⟨by omega, this.2⟩
      · rw [c]
        exact ⟨by omega, hm⟩
    · rintro ⟨a, c⟩
      by_cases q : x = i
      · exact .inr ⟨rn, .inr q⟩
      · rcases hx.2 ⟨by omega, c⟩ with d | ⟨_, d⟩
        · exact .inl d
        · exact .inr ⟨rn, .inl d⟩
theorem of_l0 {m : Nat → Bool} {b : Bool} : ∀ (d k i : Nat) (A : List Pt), i + d = 64 → d < k → A.length ≤ i → Runs m b A i →
    ∃ R, busbarref42_Of.l0 k b (lst m) (A.map cv) (i : Int) = some (R.map cv) ∧ Runs m b R 64
  | 0, k, i, A, h, hk, hA, hR => by
    obtain ⟨k, rfl⟩ : ∃ m, k = m + 1 := ⟨k - 1, by omega⟩
    obtain rfl : i = 64 := by omega
    refine ⟨A, ?_, hR⟩
    rw [busbarref42_Of.l0]
    rw [if_neg (by omega)]
  | d + 1, k, i, A, h, hk, hA, hR => by
    obtain ⟨k, rfl⟩ : ∃ m, k = m + 1 := ⟨k - 1, by omega⟩
    rw [busbarref42_Of.l0]
    rw [if_pos (by omega), if_pos (by omega), if_pos (by rw [lst_len]; omega), rdl (by omega), up (by omega)]
    by_cases c : m i = b
    · rw [if_neg (by simp [c])]
      have new : (∀ j, j + 1 = i → m j ≠ b) → ∃ R, (if (A.map cv).length < 8796093022208 then (busbarref42_Of.l0 k b (lst m) (A.map cv ++ [(⟨(i : Int), 1⟩ : S40)]) ((i + 1 : Nat) : Int)) else none) = some (R.map cv) ∧ Runs m b R 64 := fun hn => by
        rw [if_pos (by rw [List.length_map]; omega)]
        have := of_l0 d k (i + 1) (A ++ [⟨(i : Int), 1⟩]) (by omega) (by omega) (by rw [List.length_append, List.length_singleton]; omega) (runs_new hR c (by omega) hn)
        rw [List.map_append] at this
        exact this
      by_cases c0 : (i : Int) > 0
      · rw [if_pos c0]
        obtain ⟨j, rfl⟩ : ∃ j, i = j + 1 := ⟨i - 1, by omega⟩
        have ej : wrap64 (((j + 1 : Nat) : Int) - 1) = (j : Int) := by
          rw [wr (by omega) (by omega)]
          omega
        rw [ej, if_pos (by omega), if_pos (by rw [lst_len]; omega), rdl (by omega)]
        by_cases cj : m j = b
        · rw [if_pos (by simp [cj])]
          obtain ⟨A', p, rfl, hR'⟩ := runs_more hR c (by omega) rfl cj
          have hlen : (A' ++ [p]).length = A'.length + 1 := by simp
          have el : wrap64 (((List.map cv (A' ++ [p])).length : Int) - 1) = (A'.length : Int) := by
            rw [List.length_map, hlen, wr (by omega) (by omega)]
            omega
          have rp := hR.gp.1 p (List.mem_append.2 (.inr List.mem_cons_self))
          unfold rt at rp
          have er : rd_T40 (List.map cv (A' ++ [p])) (A'.length : Int) = cv p := by
            rw [rd40_nat (by rw [List.length_map, hlen]; omega)]
            simp
          rw [el, if_pos (by omega), if_pos (by rw [List.length_map, hlen]; omega), er, Int.toNat_natCast]
          have es : (List.map cv (A' ++ [p])).set A'.length (⟨(cv p).f0, wrap64 ((cv p).f1 + 1)⟩ : S40) = List.map cv (A' ++ [⟨p.f0, p.f1 + 1⟩]) := by
            rw [List.map_append, List.map_append, List.set_append_right _ _ (by simp)]
            simp [cv, wr (x := p.f1 + 1) (by omega) (by omega)]
          rw [es]
          exact of_l0 d k (j + 1 + 1) _ (by omega) (by omega) (by rw [List.length_append, List.length_singleton]; rw [hlen] at hA; omega) hR'
        · rw [if_neg (by simp [cj])]
          exact new fun j' hj' => by
            obtain rfl : j' = j := by omega
            exact cj
      · rw [if_neg c0]
        exact new fun j' hj' => by omega
    · rw [if_pos (by simp [c])]
      exact of_l0 d k (i + 1) A (by omega) (by omega) (by omega) (runs_skip hR c)
theorem of_f {m : Nat → Bool} {b : Bool} {k : Nat} (hk : 64 < k) : ∃ R, busbarref42_Of.f k (lst m) b = some (R.map cv) ∧ Runs m b R 64 := by
  unfold busbarref42_Of.f
  exact of_l0 64 k 0 [] (by omega) hk (by simp) ⟨⟨fun p hp => (by cases hp), List.Pairwise.nil⟩, fun p hp => (by cases hp), fun x => ⟨fun h => absurd h (has_nil _), fun h => by omega⟩⟩
theorem mapF_of (l : List Pt) : mapF (l.map cv) = fun x : Nat => decide (has l (x : Int)) := funext fun x => mapF_has l x
theorem of_join {k : Nat} (hk : 64 < k) (l : List Pt) : busbarref42_Of.f k (lst (mapF (l.map cv))) true = some ((join l).map cv) := by
  obtain ⟨R, e, h⟩ := of_f (m := mapF (l.map cv)) (b := true) hk
  rw [e, gap_eq R (join l) h.gp (join_is l).1 fun x => ?_]
  rw [(join_is l).2 x]
  constructor
  · intro q
    have r := has_range q
    have := (h.is x.toNat).1 (by rwa [Int.toNat_of_nonneg r.1])
    rw [mapF_has, Int.toNat_of_nonneg r.1] at this
    exact of_decide_eq_true this.2
  · intro q
    have r := has_range q
    have := (h.is x.toNat).2 ⟨by omega, by rw [mapF_has, Int.toNat_of_nonneg r.1]; exact decide_eq_true q⟩
    rwa [Int.toNat_of_nonneg r.1] at this
theorem of_free {k : Nat} (hk : 64 < k) (l : List Pt) : busbarref42_Of.f k (lst (mapF (l.map cv))) false = some ((free l).map cv) := by
  obtain ⟨R, e, h⟩ := of_f (m := mapF (l.map cv)) (b := false) hk
  rw [e, gap_eq R (free l) h.gp (free_is l).1 fun x => ?_]
  rw [(free_is l).2 x]
  constructor
  · intro q
    have r := has_range q
    have := (h.is x.toNat).1 (by rwa [Int.toNat_of_nonneg r.1])
    rw [mapF_has, Int.toNat_of_nonneg r.1] at this
    exact ⟨r.1, r.2, of_decide_eq_false this.2⟩
  · intro ⟨r1, r2, q⟩
    have := (h.is x.toNat).2 ⟨by omega, by rw [mapF_has, Int.toNat_of_nonneg r1]; exact decide_eq_false q⟩
    rwa [Int.toNat_of_nonneg r1] at this
instance (a b : Pt) : Decidable (meets a b) := by unfold meets; infer_instance
theorem meets_b (a b : Pt) : layout_Part_Meets.f a.f0 a.f1 b.f0 b.f1 = some (decide (meets a b)) := by
  by_cases c : meets a b
  · rw [decide_eq_true c]
    exact (meets_f a b).2 c
  · rw [decide_eq_false c]
    exact meets_no c
theorem meet0_b (a b : Pt) : meet0 (cv a) (cv b) = decide (meets a b) := by
  have e : ∀ (p : Pt) (x : Nat), mapF [cv p] x = decide (has [p] (x : Int)) := fun p x => mapF_has [p] x
  by_cases c : meets a b
  · rw [decide_eq_true c]
    obtain ⟨ra, rb, h1, h2⟩ := c
    have ra' := ra
    have rb' := rb
    unfold rt at ra' rb'
    refine meet0_yes (x := (max a.f0 b.f0).toNat) (by omega) ?_ ?_
    · rw [e]
      refine decide_eq_true (has_one.2 ⟨ra, ?_⟩)
      unfold inn
      omega
    · rw [e]
      refine decide_eq_true (has_one.2 ⟨rb, ?_⟩)
      unfold inn
      omega
  · rw [decide_eq_false c]
    refine meet0_no fun x hx => ?_
    rw [e, e]
    by_cases h1 : has [a] (x : Int)
    · by_cases h2 : has [b] (x : Int)
      · exfalso
        obtain ⟨ra, i1, i2⟩ := has_one.1 h1
        obtain ⟨rb, j1, j2⟩ := has_one.1 h2
        exact c ⟨ra, rb, by omega, by omega⟩
      · simp [h2]
    · simp [h1]
/-- Do the parts at two places meet? -/
def mt (l : List Pt) (i j : Nat) : Bool := decide (meets (l.getD i z41) (l.getD j z41))
theorem getD_at {l : List Pt} {i : Nat} (h : i < l.length) : l.getD i z41 = l[i] := by
  rw [List.getD_eq_getElem?_getD, List.getElem?_eq_getElem h]
  rfl
/-- Those behind one that meet it, in order. -/
def row (l : List Pt) (i : Nat) : Nat → Nat → List S44
  | 0, _ => []
  | d + 1, j => (if mt l i j = true then [⟨(i : Int), (j : Int)⟩] else []) ++ row l i d (j + 1)
/-- All pairs that meet, in order. -/
def prs (l : List Pt) : Nat → Nat → List S44
  | 0, _ => []
  | d + 1, i => row l i d (i + 1) ++ prs l d (i + 1)
theorem row_len (l : List Pt) (i : Nat) : ∀ d j, (row l i d j).length ≤ d
  | 0, _ => by simp [row]
  | d + 1, j => by
    have := row_len l i d (j + 1)
    rw [row]
    split <;> simp <;> omega
theorem prs_len (l : List Pt) : ∀ d i, (prs l d i).length ≤ d * d
  | 0, _ => by simp [prs]
  | d + 1, i => by
    have h1 := row_len l i d (i + 1)
    have h2 := prs_len l d (i + 1)
    have e : (d + 1) * (d + 1) = d * d + d + (d + 1) := by rw [Nat.add_mul, Nat.mul_add]; omega
    rw [prs, List.length_append]
    omega
theorem over_g1 {l : List Pt} {i : Nat} (hi : i < l.length) (hl : l.length ≤ 1000) : ∀ (d m j : Nat) (x3 : List S44), j + d = l.length → x3.length + d ≤ 10000000 →
    layout_Over.l1 (m + d + 1) l x3 (i : Int) (j : Int) l (l.length : Int) (i : Int) l[i].f0 l[i].f1 = layout_Over.l0 m l (x3 ++ row l i d j) l (l.length : Int) ((i + 1 : Nat) : Int)
  | 0, m, j, x3, h, _ => by
    simp only [Nat.add_zero, layout_Over.l1, row, List.append_nil]
    rw [if_neg (by omega), up (by omega)]
  | d + 1, m, j, x3, h, hx => by
    have hj : j < l.length := by omega
    have em : mt l i j = decide (meets l[i] l[j]) := by
      unfold mt
      rw [getD_at hi, getD_at hj]
    rw [show m + (d + 1) + 1 = (m + d + 1) + 1 by omega]
    rw [layout_Over.l1]
    rw [if_pos (by omega), if_pos (by omega), rd_nat hj, meets_b, Option.bind_some, up (by omega), row, em]
    by_cases c : decide (meets l[i] l[j]) = true
    · rw [if_pos c, if_pos c, if_pos (by omega), over_g1 hi hl d m (j + 1) _ (by omega) (by rw [List.length_append, List.length_singleton]; omega), List.append_assoc]
    · rw [if_neg c, if_neg c, List.nil_append]
      exact over_g1 hi hl d m (j + 1) x3 (by omega) (by omega)
theorem over_g0 {l : List Pt} (hl : l.length ≤ 1000) : ∀ (d k i : Nat) (x3 : List S44), i + d = l.length → (d + 1) * (l.length + 2) ≤ k → x3.length + d * 1000 ≤ 5000000 → layout_Over.l0 k l x3 l (l.length : Int) (i : Int) = some (x3 ++ prs l d i)
  | 0, k, i, x3, h, hk, _ => by
    obtain ⟨k, rfl⟩ : ∃ m, k = m + 1 := ⟨k - 1, by omega⟩
    simp only [layout_Over.l0, prs, List.append_nil]
    rw [if_neg (by omega)]
  | d + 1, k, i, x3, h, hk, hx => by
    have e : (d + 1 + 1) * (l.length + 2) = (d + 1) * (l.length + 2) + (l.length + 2) := Nat.succ_mul _ _
    have hi : i < l.length := by omega
    have hr := row_len l i d (i + 1)
    obtain ⟨m, rfl⟩ : ∃ m, k = (m + d + 1) + 1 := ⟨k - 2 - d, by omega⟩
    have ih := over_g0 hl d m (i + 1) (x3 ++ row l i d (i + 1)) (by omega) (by omega) (by rw [List.length_append]; omega)
    rw [layout_Over.l0]
    rw [if_pos (by omega), if_pos (by omega), if_pos (by omega), rd_nat hi, up (by omega), over_g1 hi hl d m (i + 1) x3 (by omega) (by omega), ih, prs, List.append_assoc]
theorem over_f {l : List Pt} {k : Nat} (hl : l.length ≤ 1000) (hk : (l.length + 1) * (l.length + 2) ≤ k) : layout_Over.f k l = some (prs l l.length 0) := by
  unfold layout_Over.f
  rw [show (0 : Int) = ((0 : Nat) : Int) from rfl, over_g0 hl l.length k 0 [] (by omega) hk (by simp; omega)]
  rfl
theorem apart_g {l : List Pt} {k : Nat} (hl : l.length ≤ 1000) (hk : (l.length + 1) * (l.length + 2) ≤ k) : layout_Apart.f k l = some (decide ((∀ p ∈ l, rt p) ∧ (prs l l.length 0).length = 0)) := by
  have hk2 : l.length < k := by
    have : (l.length + 1) * (l.length + 2) = l.length * (l.length + 2) + (l.length + 2) := Nat.succ_mul _ _
    omega
  unfold layout_Apart.f
  rw [right_is hk2 (by omega), Option.bind_some]
  have hp := (rgt_is l).1.length_eq
  by_cases c : ∀ p ∈ l, rt p
  · rw [if_pos (by rw [hp, List.filter_eq_self.2 fun p h => decide_eq_true (c p h)]), over_f hl hk, Option.bind_some]
    congr 1
    rw [Bool.eq_iff_iff, decide_eq_true_iff, beq_iff_eq]
    constructor
    · intro h
      exact ⟨c, by omega⟩
    · rintro ⟨_, h⟩
      omega
  · rw [if_neg, decide_eq_false fun h => c h.1]
    intro h
    rw [hp] at h
    have h2 : (l.filter fun p => decide (rt p)).length = l.length := by omega
    have h3 := List.length_filter_eq_length_iff.1 h2
    exact c fun p hp => of_decide_eq_true (h3 p hp)
end Go.Proofs.Ytpafcbbnjkmhaaa.PLa
