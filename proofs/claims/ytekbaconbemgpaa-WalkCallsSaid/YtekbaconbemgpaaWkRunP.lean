/- What a run comes to, in plain words; one is true. Helper text. -/
import Derived.Test.YtekbaconbemgpaaWkPure4
import Derived.Test.YtekbaconbemgpaaPWex11
namespace Go.Proofs.Ytekbaconbemgpaa.PWe
open Go.RowKit Go.Proofs.YtekbaconbemgpaaW.PrintWords Go.Proofs.YtekbaconbemgpaaW.PrintLast Go.Proofs.YtekbaconbemgpaaW.PrintMore
set_option linter.unusedVariables false
set_option linter.unusedSimpArgs false

theorem mxl_ge (l : List Int) : ∀ (n j : Nat), j ≤ n → rd l (j : Int) ≤ mxl l n
  | 0, j, h => by obtain rfl : j = 0 := by omega
                  exact Int.le_refl _
  | n + 1, j, h => by
    rw [mxl]
    by_cases hj : j = n + 1
    · subst hj
      split <;> omega
    · have := mxl_ge l n j (by omega)
      split <;> omega
theorem mxl_le {l : List Int} {c : Int} (h : mxl l (l.length - 1) ≤ c) : ∀ s ∈ l, s ≤ c := by
  intro s hs
  obtain ⟨i, hi, rfl⟩ := List.getElem_of_mem hs
  have := mxl_ge l (l.length - 1) i (by omega)
  rw [rd_at hi] at this
  omega
theorem fit_good {md : Int} {l : List S76} (hl : l.length ≤ 32) (hg : ∀ x ∈ l, GoodW md x) : Fit l ∧ ∀ x ∈ l, 0 ≤ x.f0 ∧ x.f0 ≤ 2 := by
  refine ⟨⟨by omega, fun x hx => ?_⟩, fun x hx => ?_⟩
  · rcases hg x hx with h | h | h
    · omega
    · rw [h.2.1, h.2.2]; simp
    · rw [h.2.1, h.2.2]; simp
  · rcases hg x hx with h | h | h <;> omega
theorem spansW_ne : ∀ (l : List S76) (a b : Int), 0 < (spansW a b l).length
  | [], a, b => by simp [spansW]
  | x :: xs, a, b => by
    rw [spansW]
    split
    · exact spansW_ne xs _ _
    split
    · simp
    · exact spansW_ne xs _ _
def ticksV : List S76 → Int
  | [] => 0
  | x :: xs => if x.f0 < 0 ∨ x.f0 > 2 then ticksV xs else 20 * bitsOf x + ticksV xs
theorem viewL_last (md : Int) : ∀ (l : List S76) (a : Int) (s : S47), (s :: viewL md a l)[(viewL md a l).length]'(by simp) = ⟨4, a + ticksV l, 120, 0, 0, 0, -1, false⟩
  | [], a, s => by simp [viewL, ticksV]
  | x :: xs, a, s => by
    by_cases h : x.f0 < 0 ∨ x.f0 > 2
    · have := viewL_last md xs a s
      simp only [viewL, ticksV, if_pos h]
      exact this
    · have := viewL_last md xs (a + 20 * bitsOf x) (slotOf a md x)
      simp only [viewL, ticksV, if_neg h, List.length_cons, List.getElem_cons_succ]
      rw [this, Int.add_assoc]
theorem pulse_long {k : Nat} (h : 0 < k) (n : Int) : plan_Slot_Pulse.f k 3 0 n 0 0 0 (-1) false = some (60, wrap64 (n - 60)) := by
  rw [pulse_f ⟨3, 0, n, 0, 0, 0, -1, false⟩ h]
  simp only
  rw [if_neg (by decide), if_neg (by decide), if_pos (by decide)]
/-- View and Spans, at what a walk may come to. -/
theorem view_is {k : Nat} {md v : Int} {l : List S76} (hk : 300 < k) (hv0 : 0 ≤ v) (hv1 : v < 2) (hl : l.length ≤ 32) (hf : Fit l) :
    (v = 0 → plan_View.f k 0 l ([] : List S76) v md = some (⟨3, 0, 200 + 40 * v, 0, 0, 0, -1, false⟩ :: viewL md (200 + 40 * v) l)) ∧ (v = 1 → plan_View.f k 0 ([] : List S76) l v md = some (⟨3, 0, 200 + 40 * v, 0, 0, 0, -1, false⟩ :: viewL md (200 + 40 * v) l)) := by
  constructor
  · rintro rfl
    rw [plan_View.f, is_f (by decide) (by decide), Option.bind_some, if_pos rfl, start_f (by decide) (by decide), Option.bind_some, Option.bind_some, if_pos rfl, show (0 : Int) = ((0 : Nat) : Int) from rfl]
    rw [view_l0 md l hf l.length k 0 _ _ (by omega) (by omega) (by simp; omega) (by omega) (by omega)]
    rfl
  · rintro rfl
    rw [plan_View.f, is_f (by decide) (by decide), Option.bind_some, if_pos rfl, start_f (by decide) (by decide), Option.bind_some, Option.bind_some, if_neg (by decide), if_pos rfl, show (0 : Int) = ((0 : Nat) : Int) from rfl]
    rw [view_l100 md l hf l.length k 0 _ _ (by omega) (by omega) (by simp; omega) (by omega) (by omega)]
    rfl
theorem spans_is {k : Nat} {v : Int} {l : List S76} (hk : 400 < k) (hv0 : 0 ≤ v) (hv1 : v < 2) (hl : l.length ≤ 32) (hf : Fit l) (hx : ∀ x ∈ l, 0 ≤ x.f0 ∧ x.f0 ≤ 2) : valid_Spans.f k l v = some (spansW (10 + 2 * v) 3 l) := by
  obtain ⟨k, rfl⟩ : ∃ m, k = m + 3 := ⟨k - 3, by omega⟩
  have hvl := viewL_len (-1) l (20 * (10 + 2 * v))
  rw [valid_Spans.f, if_neg (by omega), decide_eq_false (by omega), valid_Spans.j0, if_neg (by decide)]
  rcases (by omega : v = 0 ∨ v = 1) with rfl | rfl
  · rw [if_pos rfl, (view_is (k := k + 2) (md := -1) (by omega) hv0 hv1 hl hf).1 rfl, Option.bind_some]
    have h := spans_l0 0 0 l hf rfl (-1) l k [⟨3, 0, 200, 0, 0, 0, -1, false⟩] 10 3 [] (by simp) (by simp; omega) (by omega) (by omega) hx (by simp; omega) (by omega) (by omega) (by omega) (by omega) (by omega)
    generalize hL : (⟨3, 0, 200 + 40 * 0, 0, 0, 0, -1, false⟩ : S47) :: viewL (-1) (200 + 40 * 0) l = L
    replace h : valid_Spans.l0 k 0 [] 60 L (L.length : Int) 1 0 l = some (spansW 10 3 l) := by rw [← hL]; exact h
    have hl0 : 0 < L.length := by rw [← hL]; simp
    have hg : rd_T47 L 0 = ⟨3, 0, 200, 0, 0, 0, -1, false⟩ := by rw [← hL]; rfl
    rw [valid_Spans.l0, if_pos (by omega), if_pos (by omega), if_pos (by omega), hg]
    show valid_Spans.j2 (k + 1) 0 [] 0 0 L _ 0 (3 != 3) 0 l 3 0 200 0 0 0 (-1) false = _
    rw [valid_Spans.j2, if_neg (by decide), pulse_long (by omega), Option.bind_some, if_neg (by decide)]
    simp only
    rw [show wrap64 (0 + 60) = 60 from wr (by omega) (by omega), show wrap64 (0 + 1) = 1 from wr (by omega) (by omega)]
    exact h
  · rw [if_neg (by decide), if_pos rfl, (view_is (k := k + 2) (md := -1) (by omega) hv0 hv1 hl hf).2 rfl, Option.bind_some]
    have h := spans_l100 1 0 l hf rfl (-1) l k [⟨3, 0, 240, 0, 0, 0, -1, false⟩] 12 3 [] (by simp) (by simp; omega) (by omega) (by omega) hx (by simp; omega) (by omega) (by omega) (by omega) (by omega) (by omega)
    generalize hL : (⟨3, 0, 200 + 40 * 1, 0, 0, 0, -1, false⟩ : S47) :: viewL (-1) (200 + 40 * 1) l = L
    replace h : valid_Spans.l100 k 1 [] 60 L (L.length : Int) 1 0 l = some (spansW 12 3 l) := by rw [← hL]; exact h
    have hl0 : 0 < L.length := by rw [← hL]; simp
    have hg : rd_T47 L 0 = ⟨3, 0, 240, 0, 0, 0, -1, false⟩ := by rw [← hL]; rfl
    rw [valid_Spans.l100, if_pos (by omega), if_pos (by omega), if_pos (by omega), hg]
    show valid_Spans.j4 (k + 1) 1 [] 0 0 L _ 0 (3 != 3) 0 l 3 0 240 0 0 0 (-1) false = _
    rw [valid_Spans.j4, if_neg (by decide), pulse_long (by omega), Option.bind_some, if_neg (by decide)]
    simp only
    rw [show wrap64 (0 + 60) = 60 from wr (by omega) (by omega), show wrap64 (0 + 1) = 1 from wr (by omega) (by omega)]
    exact h
/-- What Run answers. -/
def runP (md v : Int) (l : List S76) (e : Int) : List S47 × Int :=
  if e = 0 then (if mxl (spansW (10 + 2 * v) 3 l) ((spansW (10 + 2 * v) 3 l).length - 1) > 200 then ([], 16) else (⟨3, 0, 200 + 40 * v, 0, 0, 0, -1, false⟩ :: viewL md (200 + 40 * v) l, 0)) else ([], e)
theorem run_is {k : Nat} {md e0 e1 v : Int} {code : List Int} {l : List S76} {e : Int} (hk : 400 < k) (hw : walk_Windows.f md e0 e1 code v = some (l, e)) (hg : (e = 0 ∧ (0 ≤ v ∧ v < 2) ∧ (0 ≤ md ∧ md < 16) ∧ l.length ≤ 32 ∧ ∀ x ∈ l, GoodW md x) ∨ e ≠ 0) :
    walk_Run.f k md e0 e1 code v = some (runP md v l e) := by
  unfold walk_Run.f runP
  rw [hw, Option.bind_some]
  rcases hg with ⟨h0, hv, hmd, hl, hgood⟩ | h0
  · rw [if_pos h0, if_pos h0]
    have hf := fit_good hl hgood
    rw [spans_is hk hv.1 hv.2 hl hf.1 hf.2, Option.bind_some]
    have hne := spansW_ne l (10 + 2 * v) 3
    rw [slices_Max_int_int.f, if_neg (by omega), Option.bind_some]
    split
    · rfl
    · rcases (by omega : v = 0 ∨ v = 1) with rfl | rfl
      · rw [if_pos rfl, (view_is (by omega) hv.1 hv.2 hl hf.1).1 rfl]; rfl
      · rw [if_neg (by decide), if_pos rfl, (view_is (by omega) hv.1 hv.2 hl hf.1).2 rfl]; rfl
  · rw [if_neg h0, if_neg h0]
theorem b800 : Bytes [8, 0, 0] := by unfold Bytes; decide
theorem b470 : Bytes [4, 7, 0] := by unfold Bytes; decide
theorem jump_on (md : Int) : ∀ n : Nat, winL md [8, 0, 0] n 0 [] [] = some ([], 15)
  | 0 => rfl
  | n + 1 => by
    rw [winL, readF_is b800 (by decide)]
    have h : readP [8, 0, 0] 0 = ([8, 0, 0, 0, 0, 0, 0], 3, 0) := by decide
    rw [h, Option.bind_some]
    have hw : walk_window.f 16 8 0 0 0 0 0 0 md = some (0, 0, 0, 0, [], [], false) := by
      rw [window_f _ _ _ _ _ _ _ _ (by decide) (by decide)]; rfl
    show (if (0 : Int) = 0 then (if (8 : Int) = 0 then _ else if (0 : Int) = 0 then (walk_window.f 16 8 0 0 0 0 0 0 md).bind _ else _) else _) = _
    rw [if_pos rfl, if_neg (by decide), if_pos rfl, hw, Option.bind_some]
    exact jump_on md n
theorem gap_on (n : Nat) : winL 0 [4, 7, 0] (n + 2) 0 [] [] = some ([⟨1, 7, 0, 0, [], []⟩], 0) := by
  rw [winL, readF_is b470 (by decide), show readP [4, 7, 0] 0 = ([4, 0, 0, 0, 0, 7, 0], 2, 0) from by decide, Option.bind_some]
  show (if (0 : Int) = 0 then (if (4 : Int) = 0 then _ else if (0 : Int) = 0 then (walk_window.f 16 4 0 0 0 0 7 0 0).bind _ else _) else _) = _
  rw [if_pos rfl, if_neg (by decide), if_pos rfl, window_f _ _ _ _ _ _ _ _ (by decide) (by decide), Option.bind_some]
  show winL 0 [4, 7, 0] (n + 1) 2 [] [⟨1, 7, 0, 0, [], []⟩] = _
  rw [winL, readF_is b470 (by decide), show readP [4, 7, 0] 2 = ([0, 0, 0, 0, 0, 0, 0], 3, 0) from by decide, Option.bind_some]
  rfl
theorem one_true {k : Nat} (hk : 400 < k) : busbarlaw11_one.f k = some true := by
  have h1 : cmd_Command_Put.f 4 0 0 0 0 7 0 = some ([4, 7], 0) := by rw [cmd_Command_Put.f, if_pos (by decide)]
  have h2 : walk_Windows.f 0 0 0 ([4, 7] ++ [0]) 1 = some ([⟨1, 7, 0, 0, [], []⟩], 0) := by
    unfold walk_Windows.f
    rw [right_is]
    simp only [List.cons_append, List.nil_append]
    rw [show (decide _ : Bool) = true from by decide, Option.bind_some, if_pos rfl, if_neg (by decide), if_neg (by decide), if_neg (by decide)]
    exact gap_on 4094
  have h3 : walk_Windows.f 0 0 0 [8, 0, 0] 0 = some ([], 15) := by
    unfold walk_Windows.f
    rw [right_is]
    rw [show (decide _ : Bool) = true from by decide, Option.bind_some, if_pos rfl, if_neg (by decide), if_neg (by decide), if_pos rfl, jump_on]
  unfold busbarlaw11_one.f
  rw [h1, Option.bind_some]
  show (if [(4 : Int), 7].length < 140737488355328 then (walk_Run.f k 0 0 0 ([4, 7] ++ [0]) 1).bind _ else none) = _
  rw [if_pos (by decide), run_is hk h2 (.inl ⟨rfl, by decide, by decide, by decide, by
    intro x hx
    obtain rfl := List.mem_singleton.1 hx
    exact .inr (.inl ⟨rfl, rfl, rfl⟩)⟩), Option.bind_some, run_is hk h3 (.inr (by decide)), Option.bind_some]
  decide
end Go.Proofs.Ytekbaconbemgpaa.PWe
