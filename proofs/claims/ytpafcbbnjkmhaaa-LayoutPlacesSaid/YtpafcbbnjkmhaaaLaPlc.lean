/- Where sizes are placed: the program's way and the reference's come to the same. Helper text. -/
import Derived.Test.YtpafcbbnjkmhaaaLaUp
import Derived.Test.YtpafcbbnjkmhaaaLaRefP
namespace Go.Proofs.Ytpafcbbnjkmhaaa.PLa
open Go.RowKit Go.Proofs.YtpafcbbnjkmhaaaW.PrintWords Go.Proofs.YtpafcbbnjkmhaaaW.PrintLast Go.Proofs.YtpafcbbnjkmhaaaW.PrintMore
set_option linter.unusedVariables false
set_option linter.unusedSimpArgs false

def cv (p : Pt) : S40 := ⟨p.f0, p.f1⟩
theorem mapF_has (l : List Pt) (x : Nat) : mapF (l.map cv) x = decide (has l (x : Int)) := by
  rw [Bool.eq_iff_iff, decide_eq_true_iff]
  unfold mapF has
  rw [List.any_eq_true]
  constructor
  · rintro ⟨q, hq, h⟩
    obtain ⟨p, hp, rfl⟩ := List.mem_map.1 hq
    obtain ⟨h1, h2, h3⟩ := of_decide_eq_true h
    exact ⟨p, hp, h1, h2, h3⟩
  · rintro ⟨p, hp, h1, h2, h3⟩
    exact ⟨cv p, List.mem_map_of_mem hp, decide_eq_true ⟨h1, h2, h3⟩⟩
theorem freeK_iff (m : Nat → Bool) (v : Nat) : ∀ k, freeK m v k = true ↔ ∀ j, j < k → m (v + j) = false
  | 0 => ⟨fun _ j h => by omega, fun _ => rfl⟩
  | k + 1 => by
    rw [freeK, Bool.and_eq_true, freeK_iff m v k]
    constructor
    · rintro ⟨h1, h2⟩ j hj
      by_cases e : j = k
      · subst e
        simpa using h2
      · exact h1 j (by omega)
    · intro h
      exact ⟨fun j hj => h j (by omega), by simpa using h k (by omega)⟩
/-- Lie so many words at a place? -/
def Ok (all : List Pt) (s u : Int) : Prop := 0 ≤ u ∧ u ≤ 64 - s ∧ ∀ x, u ≤ x → x < u + s → ¬ has all x
theorem ok_iff {all : List Pt} {s u : Int} (hs : 1 ≤ s) (hu : 0 ≤ u) (h : u ≤ 64 - s) : freeK (mapF (all.map cv)) u.toNat s.toNat = true ↔ Ok all s u := by
  rw [freeK_iff]
  constructor
  · intro hf
    refine ⟨hu, h, fun x h1 h2 hx => ?_⟩
    have := hf (x - u).toNat (by omega)
    rw [mapF_has] at this
    have := of_decide_eq_false this
    rw [show ((u.toNat + (x - u).toNat : Nat) : Int) = x by omega] at this
    exact this hx
  · rintro ⟨_, _, hf⟩ j hj
    rw [mapF_has]
    exact decide_eq_false (hf _ (by omega) (by omega))
theorem fnd_is {all : List Pt} {s a : Int} (hs : 1 ≤ s) (ha : 1 ≤ a) : ∀ (f : Nat) (v : Int), 0 ≤ v → 64 < v + f →
    (fnd (mapF (all.map cv)) s a f v = -1 ∧ ∀ t : Nat, ¬ Ok all s (v + t * a)) ∨ ∃ t : Nat, fnd (mapF (all.map cv)) s a f v = v + t * a ∧ Ok all s (v + t * a) ∧ ∀ t', t' < t → ¬ Ok all s (v + (t' : Nat) * a)
  | 0, v, hv, hf => by
    left
    refine ⟨rfl, fun t h => ?_⟩
    obtain ⟨h1, h2, _⟩ := h
    have : 0 ≤ (t : Int) * a := Int.mul_nonneg (by omega) (by omega)
    omega
  | f + 1, v, hv, hf => by
    rw [fnd]
    by_cases hle : v ≤ 64 - s
    · rw [if_pos hle]
      by_cases hk : freeK (mapF (all.map cv)) v.toNat s.toNat = true
      · rw [if_pos hk]
        right
        refine ⟨0, by simp, by simpa using (ok_iff hs hv hle).1 hk, fun t' h => by omega⟩
      · rw [if_neg hk]
        have hno : ¬ Ok all s v := fun h => hk ((ok_iff hs hv hle).2 h)
        have e : ∀ t : Nat, v + a + (t : Int) * a = v + ((t + 1 : Nat) : Int) * a := fun t => by
          rw [Int.natCast_add, Int.add_mul]
          omega
        rcases fnd_is hs ha f (v + a) (by omega) (by omega) with ⟨h1, h2⟩ | ⟨t, h1, h2, h3⟩
        · left
          refine ⟨h1, fun t h => ?_⟩
          cases t with
          | zero => exact hno (by simpa using h)
          | succ t => exact h2 t (by rw [e]; exact h)
        · right
          refine ⟨t + 1, by rw [h1, e], by rw [← e]; exact h2, fun t' ht h => ?_⟩
          cases t' with
          | zero => exact hno (by simpa using h)
          | succ t' => exact h3 t' (by omega) (by rw [e]; exact h)
    · rw [if_neg hle]
      left
      refine ⟨rfl, fun t h => ?_⟩
      obtain ⟨h1, h2, _⟩ := h
      have : 0 ≤ (t : Int) * a := Int.mul_nonneg (by omega) (by omega)
      omega
theorem pw_mem {α : Type} {R : α → α → Prop} : ∀ {l : List α}, l.Pairwise R → ∀ {a b : α}, a ∈ l → b ∈ l → a = b ∨ R a b ∨ R b a
  | c :: l, h, a, b, ha, hb => by
    obtain ⟨h1, h2⟩ := List.pairwise_cons.1 h
    rcases List.mem_cons.1 ha with e1 | ha'
    · rcases List.mem_cons.1 hb with e2 | hb'
      · exact .inl (e1.trans e2.symm)
      · exact .inr (.inl (by rw [e1]; exact h1 b hb'))
    · rcases List.mem_cons.1 hb with e2 | hb'
      · exact .inr (.inr (by rw [e2]; exact h1 a ha'))
      · exact pw_mem h2 ha' hb'
theorem wi_min {p : Pt} {s a u : Int} (hp : rt p) (ha : 1 ≤ a) (hu : u % a = 0) (h0 : p.f0 ≤ u) (h1 : u + s ≤ p.f0 + p.f1) : 0 ≤ wi p s a ∧ wi p s a ≤ u := by
  unfold rt at hp
  have e : u = u / a * a := by
    have := Int.mul_ediv_add_emod u a
    rw [Int.mul_comm] at this
    omega
  have hlt : (p.f0 + a - 1) / a < u / a + 1 := Int.ediv_lt_of_lt_mul (by omega) (by rw [Int.add_mul]; omega)
  have hle : (p.f0 + a - 1) / a * a ≤ u := by
    have := Int.mul_le_mul_of_nonneg_right (show (p.f0 + a - 1) / a ≤ u / a by omega) (show 0 ≤ a by omega)
    omega
  have h5 : 0 ≤ (p.f0 + a - 1) / a * a := Int.mul_nonneg (Int.ediv_nonneg (by omega) (by omega)) (by omega)
  unfold wi
  rw [if_neg (by omega)]
  exact ⟨h5, hle⟩
theorem spot_min {s a u : Int} (ha : 1 ≤ a) (hs : 1 ≤ s) (hu : u % a = 0) : ∀ {F : List Pt}, gap F → ∀ {p}, p ∈ F → p.f0 ≤ u → u + s ≤ p.f0 + p.f1 → 0 ≤ spot s a F ∧ spot s a F ≤ u
  | q :: r, g, p, hp, h0, h1 => by
    rw [spot]
    by_cases c : 0 ≤ wi q s a
    · rw [if_pos c]
      refine ⟨c, ?_⟩
      rcases List.mem_cons.1 hp with rfl | hp
      · exact (wi_min (g.1 p List.mem_cons_self) ha hu h0 h1).2
      · have h2 := (wi_is (g.1 q List.mem_cons_self) ha c).2.1
        have h3 := (List.pairwise_cons.1 g.2).1 p hp
        omega
    · rw [if_neg c]
      rcases List.mem_cons.1 hp with rfl | hp
      · exact absurd (wi_min (g.1 p List.mem_cons_self) ha hu h0 h1).1 c
      · exact spot_min ha hs hu (gap_tail g) hp h0 h1
theorem spot_neg {s a : Int} : ∀ (F : List Pt), spot s a F < 0 → spot s a F = -1
  | [], _ => rfl
  | q :: r, h => by
    rw [spot] at h ⊢
    split at h
    · omega
    · rename_i c
      rw [if_neg c]
      exact spot_neg r h
/-- What is free in a row lies in one part. -/
theorem one_part {F : List Pt} (g : gap F) {u s : Int} (hs : 1 ≤ s) (h : ∀ x, u ≤ x → x < u + s → has F x) : ∃ p ∈ F, p.f0 ≤ u ∧ u + s ≤ p.f0 + p.f1 := by
  obtain ⟨p, hp, rp, ip⟩ := h u (by omega) (by omega)
  refine ⟨p, hp, ip.1, ?_⟩
  have key : ∀ j : Nat, (j : Int) < s → u + j < p.f0 + p.f1 := by
    intro j
    induction j with
    | zero =>
      intro _
      have := ip.2
      omega
    | succ j ih =>
      intro hj
      have hj' := ih (by omega)
      by_cases c : u + ((j + 1 : Nat) : Int) < p.f0 + p.f1
      · exact c
      · obtain ⟨p', hp', rp', ip'⟩ := h (u + ((j + 1 : Nat) : Int)) (by omega) (by omega)
        have i1 := ip.1
        have i2 := ip'.1
        have i3 := ip'.2
        rcases pw_mem g.2 hp hp' with rfl | h2 | h2 <;> omega
  have := key (s - 1).toNat (by omega)
  omega
theorem fnd_spot {all : List Pt} {s a : Int} (hs : 1 ≤ s) (hs8 : s ≤ 64) (ha : 1 ≤ a) : fnd0 (all.map cv) s a = spot s a (free all) := by
  obtain ⟨g, hF⟩ := free_is all
  have toP : ∀ u, Ok all s u → u % a = 0 → 0 ≤ spot s a (free all) ∧ spot s a (free all) ≤ u := fun u ⟨h0, h1, h2⟩ hu => by
    obtain ⟨p, hp, q1, q2⟩ := one_part g hs (u := u) fun x hx1 hx2 => (hF x).2 ⟨by omega, by omega, h2 x hx1 hx2⟩
    exact spot_min ha hs hu g hp q1 q2
  have ofP : 0 ≤ spot s a (free all) → Ok all s (spot s a (free all)) ∧ spot s a (free all) % a = 0 := fun h => by
    obtain ⟨p, hp, e⟩ := spot_is h
    have rp := g.1 p hp
    obtain ⟨w1, w2, w3⟩ := wi_is rp ha (by rw [← e]; exact h)
    rw [← e] at w1 w2 w3
    have rp' := rp
    unfold rt at rp'
    refine ⟨⟨h, by omega, fun x hx1 hx2 hh => ?_⟩, w3⟩
    have : has (free all) x := ⟨p, hp, rp, by unfold inn; omega⟩
    exact ((hF x).1 this).2.2 hh
  unfold fnd0
  rcases fnd_is (all := all) hs ha 66 0 (by omega) (by omega) with ⟨h1, h2⟩ | ⟨t, h1, h2, h3⟩
  · rw [h1]
    by_cases c : 0 ≤ spot s a (free all)
    · obtain ⟨q1, q2⟩ := ofP c
      have e : spot s a (free all) = 0 + ((spot s a (free all) / a).toNat : Nat) * a := by
        have := Int.mul_ediv_add_emod (spot s a (free all)) a
        rw [Int.mul_comm] at this
        have h5 := Int.ediv_nonneg c (show 0 ≤ a by omega)
        rw [Int.toNat_of_nonneg h5]
        omega
      exact absurd (e ▸ q1) (h2 _)
    · exact (spot_neg _ (by omega)).symm
  · rw [h1]
    obtain ⟨c, hle⟩ := toP _ h2 (by rw [Int.zero_add]; exact Int.mul_emod_left _ _)
    obtain ⟨q1, q2⟩ := ofP c
    have e : spot s a (free all) = 0 + ((spot s a (free all) / a).toNat : Nat) * a := by
      have := Int.mul_ediv_add_emod (spot s a (free all)) a
      rw [Int.mul_comm] at this
      have h5 := Int.ediv_nonneg c (show 0 ≤ a by omega)
      rw [Int.toNat_of_nonneg h5]
      omega
    generalize (spot s a (free all) / a).toNat = t' at e
    by_cases ht : t' < t
    · exact absurd (e ▸ q1) (h3 t' ht)
    · have : (t : Int) * a ≤ (t' : Int) * a := Int.mul_le_mul_of_nonneg_right (by omega) (by omega)
      omega
end Go.Proofs.Ytpafcbbnjkmhaaa.PLa
