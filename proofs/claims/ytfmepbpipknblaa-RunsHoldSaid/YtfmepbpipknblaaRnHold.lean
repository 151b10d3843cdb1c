/- The walk of RunsHold: a run of four lines goes on, whatever one of them does. Helper text. -/
import Derived.Test.YtfmepbpipknblaaRnLater
namespace Go.Proofs.Ytfmepbpipknblaa.Rn
open Go.RowKit Go.Proofs.Ytfmepbpipknblaa.Kx
set_option linter.unusedVariables false
set_option linter.unusedSimpArgs false

/-- Lines of which one stands otherwise. -/
def setL (l : Int) (n : Nat) (high : Bool) : Int := if high then bits .or .u8 (bits .andNot .u8 l (2 ^ n : Nat)) (2 ^ n : Nat) else bits .andNot .u8 l (2 ^ n : Nat)

theorem set_any (l : Int) (n : Nat) (hn : n < 4) (b : Bool) (w : World) : Calls Try.prog 67 #[.int .u8 l, .int .i64 n, .bool b] w fun e w' => e = .returned (.int .u8 (setL l n b)) ∧ w = w' := by
  obtain rfl | rfl | rfl | rfl : n = 0 ∨ n = 1 ∨ n = 2 ∨ n = 3 := by omega
  all_goals
    cases b
    all_goals
      go_enter Try.func67, Try.ntmps67
      go_wp2_with (go_at_call 112; refine (is_yes _ (by omega) (by omega) _).mono ?_; rintro e w' ⟨rfl, rfl⟩)
      go_ret
      exact ⟨rfl, rfl⟩

def setS : Bool := (List.range 4).all fun n => [true, false].all fun b =>
  (0 ≤ setL 15 n b && setL 15 n b ≤ 255) && (0 ≤ setL 0 n b && setL 0 n b ≤ 255) && (List.range 4).all fun k =>
    (hi (setL 15 n b) k == (if k = n then b else true)) &&
    (List.range 4).all fun m => (hi (setL (setL 15 n false) m false) k == !(decide (k = n) || decide (k = m))) && (hi (setL (setL 0 n b) m true) k == (decide (k = m) || (decide (k = n) && b))) && (0 ≤ setL (setL 15 n false) m false && setL (setL 15 n false) m false ≤ 255 && 0 ≤ setL (setL 0 n b) m true && setL (setL 0 n b) m true ≤ 255)
theorem setS_all : setS = true := by decide +kernel
theorem set_facts (n : Nat) (hn : n < 4) (b : Bool) : (0 ≤ setL 15 n b ∧ setL 15 n b ≤ 255) ∧ (0 ≤ setL 0 n b ∧ setL 0 n b ≤ 255) ∧ ∀ k, k < 4 →
    hi (setL 15 n b) k = (if k = n then b else true) ∧ ∀ m, m < 4 → hi (setL (setL 15 n false) m false) k = !(decide (k = n) || decide (k = m)) ∧ hi (setL (setL 0 n b) m true) k = (decide (k = m) || (decide (k = n) && b)) ∧
      (0 ≤ setL (setL 15 n false) m false ∧ setL (setL 15 n false) m false ≤ 255 ∧ 0 ≤ setL (setL 0 n b) m true ∧ setL (setL 0 n b) m true ≤ 255) := by
  have h := setS_all
  unfold setS at h
  have h1 := List.all_eq_true.1 (List.all_eq_true.1 h n (List.mem_range.2 hn)) b (by cases b <;> simp)
  simp only [Bool.and_eq_true, decide_eq_true_eq] at h1
  obtain ⟨⟨h1, h2⟩, h3⟩ := h1
  refine ⟨h1, h2, fun k hk => ?_⟩
  have h4 := List.all_eq_true.1 h3 k (List.mem_range.2 hk)
  simp only [Bool.and_eq_true, beq_iff_eq] at h4
  refine ⟨h4.1, fun m hm => ?_⟩
  have h5 := List.all_eq_true.1 h4.2 m (List.mem_range.2 hm)
  simp only [Bool.and_eq_true, beq_iff_eq, decide_eq_true_eq] at h5
  exact ⟨h5.1.1, h5.1.2, by omega⟩

/-- Behind i ticks of four lines, of which one stood otherwise. -/
structure Hold (s : St) (n : Nat) (i : Int) : Prop where
  ok : s.ok
  a : (n ≠ 0 → s.a = i) ∧ s.a ≤ i
  b : (n ≠ 1 → s.b = i) ∧ s.b ≤ i
  c : (n ≠ 2 → s.c = i) ∧ s.c ≤ i
  d : (n ≠ 3 → s.d = i) ∧ s.d ≤ i
theorem Hold.third {s : St} {n : Nat} {i : Int} (h : Hold s n i) (hn : n < 4) : s.third = i := by
  obtain ⟨_, ha, hb, hc, hd⟩ := h
  unfold St.third Rn.third
  obtain rfl | rfl | rfl | rfl : n = 0 ∨ n = 1 ∨ n = 2 ∨ n = 3 := by omega
  all_goals
    simp at ha hb hc hd
    omega
theorem Hold.start (n : Nat) : Hold s0 n 0 := ⟨s0_ok, ⟨fun _ => rfl, Int.le_refl _⟩, ⟨fun _ => rfl, Int.le_refl _⟩, ⟨fun _ => rfl, Int.le_refl _⟩, ⟨fun _ => rfl, Int.le_refl _⟩⟩
theorem up_hold {x i : Int} {b : Bool} {p : Prop} (hi : 0 ≤ i ∧ i < 1073741824) (h : (p → x = i) ∧ x ≤ i) (hb : p → b = true) : (p → up x b = i + 1) ∧ up x b ≤ i + 1 := by
  refine ⟨fun hp => ?_, ?_⟩
  · rw [hb hp, h.1 hp]
    unfold up
    simp
    omega
  · have := h.2
    unfold up
    split <;> omega
theorem Hold.step {s : St} {n : Nat} {i : Int} (h : Hold s n i) (hn : n < 4) (hi : 0 ≤ i ∧ i < 1073741824) (b : Bool) : Hold (s.see (setL 15 n b)) n (i + 1) ∧ (s.see (setL 15 n b)).was = i := by
  have f := (set_facts n hn b).2.2
  refine ⟨⟨see_ok _ _ h.ok, ?_, ?_, ?_, ?_⟩, ?_⟩
  · exact up_hold hi h.a (fun hp => by rw [(f 0 (by omega)).1, if_neg (fun e => hp e.symm)])
  · exact up_hold hi h.b (fun hp => by rw [(f 1 (by omega)).1, if_neg (fun e => hp e.symm)])
  · exact up_hold hi h.c (fun hp => by rw [(f 2 (by omega)).1, if_neg (fun e => hp e.symm)])
  · exact up_hold hi h.d (fun hp => by rw [(f 3 (by omega)).1, if_neg (fun e => hp e.symm)])
  · exact h.third hn

theorem up_low (x : Int) : up x false = 0 := rfl
theorem low_third (s : St) (l : Int) (h : s.ok) (n m : Nat) (hn : n < 4) (hm : m < 4) (hnm : n ≠ m) (h1 : hi l n = false) (h2 : hi l m = false) : (s.see l).third = 0 := by
  obtain ⟨ha, hb, hc, hd, _, _⟩ := h
  have ua := up_ok _ (hi l 0) ha
  have ub := up_ok _ (hi l 1) hb
  have uc := up_ok _ (hi l 2) hc
  have ud := up_ok _ (hi l 3) hd
  rw [see_eq]
  show Rn.third (up s.a (hi l 0)) (up s.b (hi l 1)) (up s.c (hi l 2)) (up s.d (hi l 3)) = 0
  unfold Rn.third
  obtain rfl | rfl | rfl | rfl : n = 0 ∨ n = 1 ∨ n = 2 ∨ n = 3 := by omega
  all_goals
    obtain rfl | rfl | rfl | rfl : m = 0 ∨ m = 1 ∨ m = 2 ∨ m = 3 := by omega
    all_goals first
      | exact absurd rfl hnm
      | (rw [h1] at *
         rw [h2] at *
         simp only [up_low] at *
         omega)
theorem both_low (s : St) (h : s.ok) (n m : Nat) (hn : n < 4) (hm : m < 4) (hnm : n ≠ m) : (s.see (setL (setL 15 n false) m false)).third = 0 := by
  refine low_third s _ h n m hn hm hnm ?_ ?_
  · rw [(((set_facts n hn false).2.2 n hn).2 m hm).1]; simp
  · rw [(((set_facts n hn false).2.2 m hm).2 m hm).1]; simp
theorem two_high (s : St) (h : s.ok) (n m : Nat) (b : Bool) (hn : n < 4) (hm : m < 4) (hnm : n ≠ m) : (s.see (setL (setL 0 n b) m true)).third = 0 := by
  obtain ⟨x, y, hx, hy, hxy, h1, h2, h3, h4⟩ : ∃ x y : Nat, x < 4 ∧ y < 4 ∧ x ≠ y ∧ x ≠ n ∧ x ≠ m ∧ y ≠ n ∧ y ≠ m := by
    obtain rfl | rfl | rfl | rfl : n = 0 ∨ n = 1 ∨ n = 2 ∨ n = 3 := by omega
    all_goals
      obtain rfl | rfl | rfl | rfl : m = 0 ∨ m = 1 ∨ m = 2 ∨ m = 3 := by omega
      all_goals first
        | exact absurd rfl hnm
        | exact ⟨0, 1, by omega, by omega, by omega, by omega, by omega, by omega, by omega⟩
        | exact ⟨0, 2, by omega, by omega, by omega, by omega, by omega, by omega, by omega⟩
        | exact ⟨0, 3, by omega, by omega, by omega, by omega, by omega, by omega, by omega⟩
        | exact ⟨1, 2, by omega, by omega, by omega, by omega, by omega, by omega, by omega⟩
        | exact ⟨1, 3, by omega, by omega, by omega, by omega, by omega, by omega, by omega⟩
        | exact ⟨2, 3, by omega, by omega, by omega, by omega, by omega, by omega, by omega⟩
  refine low_third s _ h x y hx hy hxy ?_ ?_
  · rw [(((set_facts n hn b).2.2 x hx).2 m hm).2.1]; simp [h1, h2]
  · rw [(((set_facts n hn b).2.2 y hy).2 m hm).2.1]; simp [h3, h4]
theorem see_was (s : St) (l : Int) : (s.see l).was = s.third := rfl
end Go.Proofs.Ytfmepbpipknblaa.Rn
