/- The runs of lines that were seen, in plain Lean, and the reference's loops. Helper text. -/
import Derived.Test.YtfmepbpipknblaaRnLater
namespace Go.Proofs.Ytfmepbpipknblaa.Rn
open Go.RowKit Go.Proofs.Ytfmepbpipknblaa.Kx
set_option linter.unusedVariables false
set_option linter.unusedSimpArgs false

theorem snoc_ind {α : Type} {p : List α → Prop} (h0 : p []) (h1 : ∀ l x, p l → p (l ++ [x])) (l : List α) : p l := by
  have h : ∀ l : List α, p l.reverse := by
    intro l
    induction l with
    | nil => exact h0
    | cons x l ih => rw [List.reverse_cons]; exact h1 _ _ ih
  have := h l.reverse
  rwa [List.reverse_reverse] at this

/-- How many of the last ones have a line high. -/
def runs (l : List Int) (k : Nat) : Int := l.foldl (fun n x => if hi x k then n + 1 else 0) 0
theorem runs_snoc (l : List Int) (x : Int) (k : Nat) : runs (l ++ [x]) k = if hi x k then runs l k + 1 else 0 := by
  unfold runs; rw [List.foldl_append]; rfl
theorem runs_ge (l : List Int) (k : Nat) : 0 ≤ runs l k ∧ runs l k ≤ l.length := by
  induction l using snoc_ind with
  | h0 => exact ⟨Int.le_refl _, Int.le_refl _⟩
  | h1 l x ih => rw [runs_snoc, List.length_append]; split <;> simp <;> omega
theorem runs_all (ys zs : List Int) (k : Nat) (h : ∀ z ∈ zs, hi z k = true) : runs (ys ++ zs) k = runs ys k + zs.length := by
  induction zs using snoc_ind with
  | h0 => simp
  | h1 l x ih =>
    rw [← List.append_assoc, runs_snoc, if_pos (h x (by simp)), ih (fun z hz => h z (by simp [hz]))]
    simp
    omega
/-- The least run but for one line's, as the reference goes through the lines. -/
def lst (R : Nat → Int) (s : Nat) : Nat → Int
  | 0 => -1
  | k + 1 => if k = s then lst R s k else if lst R s k < 0 then R k else if R k < lst R s k then R k else lst R s k
def bst (R : Nat → Int) : Nat → Int
  | 0 => 0
  | s + 1 => max (bst R s) (lst R s 4)
theorem lst_same (R : Nat → Int) (s : Nat) : lst R s (s + 1) = lst R s s := by simp [lst]
theorem lst_first (R : Nat → Int) (s k : Nat) (hk : k ≠ s) (h : lst R s k = -1) : lst R s (k + 1) = R k := by simp [lst, hk, h]
theorem lst_next (R : Nat → Int) (s k : Nat) (hk : k ≠ s) (h : 0 ≤ lst R s k) : lst R s (k + 1) = min (R k) (lst R s k) := by
  rw [lst, if_neg hk, if_neg (by omega)]
  split <;> omega
theorem min3 (a b c : Int) : min c (min b a) = min a (min b c) := by omega
theorem bst_third (R : Nat → Int) (h : ∀ k, 0 ≤ R k) : bst R 4 = third (R 0) (R 1) (R 2) (R 3) := by
  have h0 := h 0
  have h1 := h 1
  have h2 := h 2
  have h3 := h 3
  have z : ∀ s, lst R s 0 = -1 := fun s => rfl
  have a1 : lst R 0 1 = -1 := (lst_same R 0).trans (z 0)
  have a2 : lst R 0 2 = R 1 := lst_first R 0 1 (by omega) a1
  have a3 : lst R 0 3 = min (R 2) (lst R 0 2) := lst_next R 0 2 (by omega) (by omega)
  have a4 : lst R 0 4 = min (R 3) (lst R 0 3) := lst_next R 0 3 (by omega) (by omega)
  have b1 : lst R 1 1 = R 0 := lst_first R 1 0 (by omega) (z 1)
  have b2 : lst R 1 2 = lst R 1 1 := lst_same R 1
  have b3 : lst R 1 3 = min (R 2) (lst R 1 2) := lst_next R 1 2 (by omega) (by omega)
  have b4 : lst R 1 4 = min (R 3) (lst R 1 3) := lst_next R 1 3 (by omega) (by omega)
  have c1 : lst R 2 1 = R 0 := lst_first R 2 0 (by omega) (z 2)
  have c2 : lst R 2 2 = min (R 1) (lst R 2 1) := lst_next R 2 1 (by omega) (by omega)
  have c3 : lst R 2 3 = lst R 2 2 := lst_same R 2
  have c4 : lst R 2 4 = min (R 3) (lst R 2 3) := lst_next R 2 3 (by omega) (by omega)
  have d1 : lst R 3 1 = R 0 := lst_first R 3 0 (by omega) (z 3)
  have d2 : lst R 3 2 = min (R 1) (lst R 3 1) := lst_next R 3 1 (by omega) (by omega)
  have d3 : lst R 3 3 = min (R 2) (lst R 3 2) := lst_next R 3 2 (by omega) (by omega)
  have d4 : lst R 3 4 = lst R 3 3 := lst_same R 3
  have A : lst R 0 4 = min (R 1) (min (R 2) (R 3)) := by rw [a4, a3, a2]; exact min3 _ _ _
  have B : lst R 1 4 = min (R 0) (min (R 2) (R 3)) := by rw [b4, b3, b2, b1]; exact min3 _ _ _
  have C : lst R 2 4 = min (R 0) (min (R 1) (R 3)) := by rw [c4, c3, c2, c1]; exact min3 _ _ _
  have D : lst R 3 4 = min (R 0) (min (R 1) (R 2)) := by rw [d4, d3, d2, d1]; exact min3 _ _ _
  show max (max (max (max 0 (lst R 0 4)) (lst R 1 4)) (lst R 2 4)) (lst R 3 4) = _
  rw [A, B, C, D]
  unfold third
  have n1 : 0 ≤ min (R 1) (min (R 2) (R 3)) := by omega
  clear A B C D a1 a2 a3 a4 b1 b2 b3 b4 c1 c2 c3 c4 d1 d2 d3 d4 z h0 h1 h2 h3 h
  generalize min (R 1) (min (R 2) (R 3)) = x1 at *
  generalize min (R 0) (min (R 2) (R 3)) = x2 at *
  generalize min (R 0) (min (R 1) (R 3)) = x3 at *
  generalize min (R 0) (min (R 1) (R 2)) = x4 at *
  omega
theorem runs_see (l : List Int) (x : Int) (s : St) (h : s.a = runs l 0 ∧ s.b = runs l 1 ∧ s.c = runs l 2 ∧ s.d = runs l 3) (hl : l.length < 1000) :
    (s.see x).a = runs (l ++ [x]) 0 ∧ (s.see x).b = runs (l ++ [x]) 1 ∧ (s.see x).c = runs (l ++ [x]) 2 ∧ (s.see x).d = runs (l ++ [x]) 3 := by
  have g : ∀ k, up (runs l k) (hi x k) = runs (l ++ [x]) k := by
    intro k
    rw [runs_snoc]
    unfold up
    have := runs_ge l k
    split
    · omega
    · rfl
  rw [see_eq]
  rw [h.1, h.2.1, h.2.2.1, h.2.2.2, g, g, g, g]
  exact ⟨rfl, rfl, rfl, rfl⟩
end Go.Proofs.Ytfmepbpipknblaa.Rn
