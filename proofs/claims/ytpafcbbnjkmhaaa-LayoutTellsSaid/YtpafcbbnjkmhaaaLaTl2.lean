/- LayoutTells, as printed, answers true at every input. Helper text. -/
import Derived.Test.YtpafcbbnjkmhaaaLaTel
import Derived.Test.YtpafcbbnjkmhaaaPLaxT
import Derived.Test.YtpafcbbnjkmhaaaLaRead
namespace Go.Proofs.Ytpafcbbnjkmhaaa.PLa
open Go.RowKit Go.Proofs.Ytpafcbbnjkmhaaa.Kx Go.Proofs.YtpafcbbnjkmhaaaW.PrintWords Go.Proofs.YtpafcbbnjkmhaaaW.PrintLast Go.Proofs.YtpafcbbnjkmhaaaW.PrintMore
set_option linter.unusedVariables false
set_option linter.unusedSimpArgs false

theorem right0_b (p : Pt) : busbarref42_Right.f (cv p).f0 (cv p).f1 = some (decide (rt p)) := (right0_f (cv p)).trans (congrArg some (by
  rw [Bool.eq_iff_iff, decide_eq_true_iff, decide_eq_true_iff]
  exact Iff.rfl))
theorem refm_b (a b : Pt) : busbarref42_Meets.f (cv a).f0 (cv a).f1 (cv b).f0 (cv b).f1 = some (decide (meets a b)) := by
  unfold busbarref42_Meets.f
  exact congrArg some (meet0_b a b)
theorem rdcv {l : List Pt} {i : Nat} (h : i < l.length) : rd_T40 (l.map cv) (i : Int) = cv l[i] := by
  rw [rd40_nat (by rw [List.length_map]; exact h)]
  simp
theorem rd44 {l : List S44} {i : Nat} (h : i < l.length) : rd_T44 l (i : Int) = l[i] := by
  unfold rd_T44
  rw [Int.toNat_natCast, List.getD_eq_getElem?_getD, List.getElem?_eq_getElem h]
  rfl
theorem drop_head {α : Type} {P : List α} {n : Nat} {x : α} {r : List α} (h : P.drop n = x :: r) : ∃ hn : n < P.length, P[n] = x ∧ P.drop (n + 1) = r := by
  have hn : n < P.length := by
    rcases Nat.lt_or_ge n P.length with c | c
    · exact c
    · rw [List.drop_eq_nil_of_le c] at h
      cases h
  rw [List.drop_eq_getElem_cons hn] at h
  injection h with h1 h2
  exact ⟨hn, h1, h2⟩
def cf (m : Nat → Bool) : Nat → Nat → Nat
  | 0, _ => 0
  | d + 1, i => (if m i = true then 1 else 0) + cf m d (i + 1)
theorem cf_is (m : Nat → Bool) : ∀ d i, (List.range i).countP m + cf m d i = (List.range (i + d)).countP m
  | 0, i => by rw [cf]; simp
  | d + 1, i => by
    have := cf_is m d (i + 1)
    rw [List.range_succ, List.countP_append, List.countP_singleton] at this
    rw [cf, show i + (d + 1) = i + 1 + d by omega]
    omega
theorem cf_le (m : Nat → Bool) : ∀ d i, cf m d i ≤ d
  | 0, i => by simp [cf]
  | d + 1, i => by
    have := cf_le m d (i + 1)
    rw [cf]
    split <;> omega
theorem tells_l0 {l : List Pt} {m : Nat → Bool} {k0 : Nat} : ∀ (d i c : Nat), i + d = 64 → c ≤ i →
    busbarlaw42_LayoutTells.l0 (k0 + d + 1) l (l.map cv) (lst m) (c : Int) true 0 (i : Int) = (layout_Over.f k0 l).bind fun t => busbarlaw42_LayoutTells.l1 k0 l (l.map cv) (lst m) ((c + cf m d i : Nat) : Int) true 0 t 0
  | 0, i, c, h, hc => by
    rw [busbarlaw42_LayoutTells.l0]
    rw [if_neg (by omega), cf]
    rfl
  | d + 1, i, c, h, hc => by
    rw [show k0 + (d + 1) + 1 = (k0 + d + 1) + 1 by omega, busbarlaw42_LayoutTells.l0]
    rw [if_pos (by omega), if_pos (by omega), if_pos (by rw [lst_len]; omega), rdl (by omega), up (i := i) (by omega), up (i := c) (by omega), cf]
    by_cases q : m i = true
    · rw [if_pos q, if_pos q, tells_l0 d (i + 1) (c + 1) (by omega) (by omega), show c + 1 + cf m d (i + 1) = c + (1 + cf m d (i + 1)) by omega]
    · rw [if_neg q, if_neg q, tells_l0 d (i + 1) c (by omega) (by omega), show c + cf m d (i + 1) = c + (0 + cf m d (i + 1)) by omega]
section
variable {l : List Pt} {x4 : List Bool} {c : Int} {P : List S44}
theorem tells_l2 (hP : P.length ≤ 10000) {i : Nat} (hi : i < l.length) (hl : l.length ≤ 1000) (rest : List S44) : ∀ (d m j n : Nat) (b : Bool), j + d = l.length → P.drop n = row l i d j ++ rest →
    busbarlaw42_LayoutTells.l2 (m + 2 * d + 1) l (l.map cv) x4 c b (n : Int) P (i : Int) (j : Int) = busbarlaw42_LayoutTells.l1 m l (l.map cv) x4 c (b && decide ((row l i d j).length = 0)) ((n + (row l i d j).length : Nat) : Int) P ((i + 1 : Nat) : Int)
  | 0, m, j, n, b, h, hd => by
    rw [show m + 2 * 0 + 1 = m + 1 by omega, busbarlaw42_LayoutTells.l2]
    rw [if_neg (by omega), up (by omega), row]
    simp
  | d + 1, m, j, n, b, h, hd => by
    have hj : j < l.length := by omega
    have em : mt l i j = decide (meets l[i] l[j]) := by
      unfold mt
      rw [getD_at hi, getD_at hj]
    have ec : decide (meets l[j] l[i]) = decide (meets l[i] l[j]) := by
      rw [Bool.eq_iff_iff, decide_eq_true_iff, decide_eq_true_iff]
      exact meets_comm
    rw [show m + 2 * (d + 1) + 1 = (m + 2 * d + 1) + 1 + 1 by omega, busbarlaw42_LayoutTells.l2]
    rw [if_pos (by omega), if_pos (by omega), if_pos (by omega), if_pos (by omega), rd_nat hi, rd_nat hj, meets_b, meets_b, Option.bind_some, if_pos (by rw [List.length_map]; omega), if_pos (by rw [List.length_map]; omega), rdcv hi, rdcv hj, refm_b, Option.bind_some, if_neg (by simp), ec, Option.bind_some, Option.bind_some]
    rw [show (decide (meets l[i] l[j]) != decide (meets l[i] l[j])) = false by simp, busbarlaw42_LayoutTells.j4]
    rw [if_neg (by decide), if_pos (by omega), if_pos (by rw [List.length_map]; omega), if_pos (by omega), if_pos (by rw [List.length_map]; omega), rdcv hi, rdcv hj, refm_b, Option.bind_some]
    rw [row, em] at hd
    rw [row, em]
    by_cases q : decide (meets l[i] l[j]) = true
    · rw [if_pos q] at hd ⊢
      rw [if_pos q]
      obtain ⟨hn, hx, hr⟩ := drop_head hd
      rw [if_neg (by omega), if_pos (by omega), if_pos (by omega), rd44 hn, hx, if_neg (by simp), up (i := n) (by omega), up (i := j) (by omega), tells_l2 hP hi hl rest d m (j + 1) (n + 1) false (by omega) hr]
      congr 1
      · simp
      · rw [List.length_append, List.length_singleton]
        congr 1
        omega
    · rw [if_neg q, List.nil_append] at hd
      rw [if_neg q, if_neg q, List.nil_append, up (i := j) (by omega), tells_l2 hP hi hl rest d m (j + 1) n b (by omega) hd]
theorem take_rt {i : Nat} (hi : i < l.length) : (∀ p ∈ l.take (i + 1), rt p) ↔ (∀ p ∈ l.take i, rt p) ∧ rt l[i] := by
  rw [List.take_succ_eq_append_getElem hi]
  constructor
  · intro h
    exact ⟨fun p hp => h p (List.mem_append.2 (.inl hp)), h _ (List.mem_append.2 (.inr List.mem_cons_self))⟩
  · rintro ⟨h1, h2⟩ p hp
    rcases List.mem_append.1 hp with q | q
    · exact h1 p q
    · rw [List.mem_singleton.1 q]
      exact h2
def Rr (l : List Pt) (i n : Nat) : Prop := (∀ p ∈ l.take i, rt p) ∧ n = 0
instance (l : List Pt) (i n : Nat) : Decidable (Rr l i n) := by unfold Rr; infer_instance
theorem tells_l1 (hP : P.length ≤ 10000) (hl : l.length ≤ 1000) (hex : ∀ k', 10000 ≤ k' → busbarlaw42_LayoutTells.ex k' l x4 c (decide ((∀ p ∈ l, rt p) ∧ P.length = 0)) (P.length : Int) P = some true) :
    ∀ (d k i n : Nat) (b : Bool), i + d = l.length → 10001 + d * (2 * l.length + 10) ≤ k → P.drop n = prs l d i → n ≤ P.length → b = decide (Rr l i n) →
    busbarlaw42_LayoutTells.l1 k l (l.map cv) x4 c b (n : Int) P (i : Int) = some true
  | 0, k, i, n, b, h, hk, hd, hn, hb => by
    obtain ⟨k, rfl⟩ : ∃ m, k = m + 1 := ⟨k - 1, by omega⟩
    rw [busbarlaw42_LayoutTells.l1]
    rw [if_neg (by omega)]
    rw [prs, List.drop_eq_nil_iff] at hd
    obtain rfl : n = P.length := by omega
    have e : decide (Rr l i P.length) = decide ((∀ p ∈ l, rt p) ∧ P.length = 0) := by
      rw [Bool.eq_iff_iff, decide_eq_true_iff, decide_eq_true_iff, Rr, List.take_of_length_le (by omega)]
    rw [hb, e]
    exact hex k (by omega)
  | d + 1, k, i, n, b, h, hk, hd, hn, hb => by
    have e : (d + 1) * (2 * l.length + 10) = d * (2 * l.length + 10) + (2 * l.length + 10) := Nat.succ_mul _ _
    have hi : i < l.length := by omega
    obtain ⟨m, rfl⟩ : ∃ m, k = (m + 2 * d + 1) + 1 + 1 := ⟨k - 3 - 2 * d, by omega⟩
    rw [prs] at hd
    have hrow : (row l i d (i + 1)).length + n ≤ P.length := by
      have h1 := congrArg List.length hd
      rw [List.length_drop, List.length_append] at h1
      omega
    have key : ∀ b' : Bool, b' = decide (Rr l (i + 1) n) → busbarlaw42_LayoutTells.j2 ((m + 2 * d + 1) + 1) l (l.map cv) x4 c b' (n : Int) P (i : Int) = some true := fun b' hb' => by
      rw [busbarlaw42_LayoutTells.j2]
      rw [if_pos (by omega), if_pos (by omega), rd_nat hi, right_f, Option.bind_some, if_pos (by rw [List.length_map]; omega), rdcv hi, right0_b, Option.bind_some, if_neg (by simp), up (by omega), tells_l2 hP hi hl _ d m (i + 1) n b' (by omega) hd]
      refine tells_l1 hP hl hex d m (i + 1) _ _ (by omega) (by omega) ?_ (by omega) ?_
      · rw [← List.drop_drop, hd, List.drop_left]
      · rw [hb', Bool.eq_iff_iff, Bool.and_eq_true, decide_eq_true_iff, decide_eq_true_iff, decide_eq_true_iff]
        constructor
        · rintro ⟨⟨h1, h2⟩, h3⟩
          exact ⟨h1, by omega⟩
        · rintro ⟨h1, h2⟩
          exact ⟨⟨h1, by omega⟩, by omega⟩
    rw [busbarlaw42_LayoutTells.l1]
    rw [if_pos (by omega)]
    by_cases q : b = true
    · rw [if_pos q, if_pos (by omega), if_pos (by rw [List.length_map]; omega), rdcv hi, right0_b, Option.bind_some]
      refine key _ ?_
      rw [hb] at q
      have q' := of_decide_eq_true q
      rw [Bool.eq_iff_iff, decide_eq_true_iff, decide_eq_true_iff, Rr, take_rt hi]
      exact ⟨fun r => ⟨⟨q'.1, r⟩, q'.2⟩, fun r => r.1.2⟩
    · rw [if_neg q]
      refine key _ ?_
      rw [eq_comm, decide_eq_false_iff_not]
      intro r
      rw [Rr, take_rt hi] at r
      exact q (by rw [hb]; exact decide_eq_true ⟨r.1.1, r.2⟩)
end
/-- LayoutTells answers true. -/
theorem tells_true (l : List Pt) : busbarlaw42_LayoutTells.f 100000 l = some true := by
  unfold busbarlaw42_LayoutTells.f
  by_cases c : (l.length : Int) > 40
  · rw [if_pos c]
  · have hl : l.length ≤ 40 := by omega
    have hsq : (l.length + 1) * (l.length + 2) ≤ 41 * 42 := Nat.mul_le_mul (by omega) (by omega)
    have hsq2 : l.length * l.length ≤ 40 * 40 := Nat.mul_le_mul hl hl
    have hsq3 : l.length * (2 * l.length + 10) ≤ 40 * 90 := Nat.mul_le_mul hl (by omega)
    have hp := prs_len l l.length 0
    have hcf := cf_le (mapF (l.map cv)) 64 0
    have hu : used l = ((0 + cf (mapF (l.map cv)) 64 0 : Nat) : Int) := by
      have h := cf_is (mapF (l.map cv)) 64 0
      rw [used_cnt, cnt]
      rw [List.range_zero, List.countP_nil] at h
      rw [h, mapF_of]
    rw [if_neg c, own_f (by omega) (by omega), Option.bind_some]
    unfold busbarref42_Map.f
    rw [if_pos (by rw [List.length_map]; omega), Option.bind_some, show (100000 : Nat) = 99935 + 64 + 1 from rfl, show (0 : Int) = ((0 : Nat) : Int) from rfl]
    have h0 := tells_l0 (l := l) (m := mapF (l.map cv)) (k0 := 99935) 64 0 0 rfl (Nat.le_refl _)
    rw [show (0 : Int) = ((0 : Nat) : Int) from rfl] at h0
    rw [h0, over_f (by omega) (by omega), Option.bind_some]
    refine tells_l1 (by omega) (by omega) (fun k hk => ?_) l.length 99935 0 0 true (by omega) (by omega) (by simp) (by omega) (by simp [Rr])
    unfold busbarlaw42_LayoutTells.ex
    rw [if_pos rfl, apart_g (by omega) (by omega), if_pos rfl, used_f (by omega) (by omega), hu, if_pos rfl, join_f (by omega) (by omega), Option.bind_some, of_join (by omega), Option.bind_some]
    have hj := join_len l
    have hf := free_len l
    rw [if_pos (same_f (by omega) (by omega)), free_f (by omega) (by omega), Option.bind_some, of_free (by omega), Option.bind_some, if_pos (same_f (by omega) (by omega)), if_pos (one_f hk)]
theorem tells_row (l0 : List S41) (A0 : Option Addr) (c0 : Nat) (w : World)
    (rd0 : RSl 2 RPart w A0 l0) (lc0 : l0.length ≤ c0) (lm0 : c0 ≤ maxLen) (_ : A0 = none → c0 = 0) :
    Calls Try.prog 4 #[.slice A0 l0.length c0] w fun e w' => e = .returned (.bool true) ∧ Below w.heap.size w w' :=
  busbarlaw42_LayoutTells.calls 100000 A0 c0 l0 true w (rsl_reads (d := k41) rd0 (fun cs x hx => by rw [show cs = _ from hx]; exact k41_mk w x) (Nat.le_trans lc0 lm0)) lc0 (tells_true l0)
end Go.Proofs.Ytpafcbbnjkmhaaa.PLa
