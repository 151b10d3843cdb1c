/- WalkEnds, in plain words: the printed law is true. Helper text. -/
import Derived.Test.YtekbaconbemgpaaWkPure4
import Derived.Test.YtekbaconbemgpaaPWex12
namespace Go.Proofs.Ytekbaconbemgpaa.PWe
open Go.RowKit Go.Proofs.YtekbaconbemgpaaW.PrintWords Go.Proofs.YtekbaconbemgpaaW.PrintLast Go.Proofs.YtekbaconbemgpaaW.PrintMore
set_option linter.unusedVariables false
set_option linter.unusedSimpArgs false

theorem mxl_ge (l : List Int) : ∀ (n j : Nat), j ≤ n → rd l (j : Int) ≤ mxl l n
  | 0, j, h => by obtain rfl : j = 0 := by omega
                  exact Int.le_refl _
  | n + 1, j, h => by
    rw [mxl]
    by_cases hj : j = n + 1
    · subst hj
      split <;> omega
    · have := mxl_ge l n j (by omega)
      split <;> omega
theorem mxl_le {l : List Int} {c : Int} (h : mxl l (l.length - 1) ≤ c) : ∀ s ∈ l, s ≤ c := by
  intro s hs
  obtain ⟨i, hi, rfl⟩ := List.getElem_of_mem hs
  have := mxl_ge l (l.length - 1) i (by omega)
  rw [rd_at hi] at this
  omega
theorem fit_good {md : Int} {l : List S76} (hl : l.length ≤ 32) (hg : ∀ x ∈ l, GoodW md x) : Fit l ∧ ∀ x ∈ l, 0 ≤ x.f0 ∧ x.f0 ≤ 2 := by
  refine ⟨⟨by omega, fun x hx => ?_⟩, fun x hx => ?_⟩
  · rcases hg x hx with h | h | h
    · omega
    · rw [h.2.1, h.2.2]; simp
    · rw [h.2.1, h.2.2]; simp
  · rcases hg x hx with h | h | h <;> omega
theorem spansW_ne : ∀ (l : List S76) (a b : Int), 0 < (spansW a b l).length
  | [], a, b => by simp [spansW]
  | x :: xs, a, b => by
    rw [spansW]
    split
    · exact spansW_ne xs _ _
    split
    · simp
    · exact spansW_ne xs _ _
def ticksV : List S76 → Int
  | [] => 0
  | x :: xs => if x.f0 < 0 ∨ x.f0 > 2 then ticksV xs else 20 * bitsOf x + ticksV xs
theorem viewL_last (md : Int) : ∀ (l : List S76) (a : Int) (s : S47), (s :: viewL md a l)[(viewL md a l).length]'(by simp) = ⟨4, a + ticksV l, 120, 0, 0, 0, -1, false⟩
  | [], a, s => by simp [viewL, ticksV]
  | x :: xs, a, s => by
    by_cases h : x.f0 < 0 ∨ x.f0 > 2
    · have := viewL_last md xs a s
      simp only [viewL, ticksV, if_pos h]
      exact this
    · have := viewL_last md xs (a + 20 * bitsOf x) (slotOf a md x)
      simp only [viewL, ticksV, if_neg h, List.length_cons, List.getElem_cons_succ]
      rw [this, Int.add_assoc]
theorem pulse_long {k : Nat} (h : 0 < k) (n : Int) : plan_Slot_Pulse.f k 3 0 n 0 0 0 (-1) false = some (60, wrap64 (n - 60)) := by
  rw [pulse_f ⟨3, 0, n, 0, 0, 0, -1, false⟩ h]
  simp only
  rw [if_neg (by decide), if_neg (by decide), if_pos (by decide)]
/-- View and Spans, at what a walk may come to. -/
theorem view_is {k : Nat} {md v : Int} {l : List S76} (hk : 300 < k) (hv0 : 0 ≤ v) (hv1 : v < 2) (hl : l.length ≤ 32) (hf : Fit l) :
    (v = 0 → plan_View.f k 0 l ([] : List S76) v md = some (⟨3, 0, 200 + 40 * v, 0, 0, 0, -1, false⟩ :: viewL md (200 + 40 * v) l)) ∧ (v = 1 → plan_View.f k 0 ([] : List S76) l v md = some (⟨3, 0, 200 + 40 * v, 0, 0, 0, -1, false⟩ :: viewL md (200 + 40 * v) l)) := by
  constructor
  · rintro rfl
    rw [plan_View.f, is_f (by decide) (by decide), Option.bind_some, if_pos rfl, start_f (by decide) (by decide), Option.bind_some, Option.bind_some, if_pos rfl, show (0 : Int) = ((0 : Nat) : Int) from rfl]
    rw [view_l0 md l hf l.length k 0 _ _ (by omega) (by omega) (by simp; omega) (by omega) (by omega)]
    rfl
  · rintro rfl
    rw [plan_View.f, is_f (by decide) (by decide), Option.bind_some, if_pos rfl, start_f (by decide) (by decide), Option.bind_some, Option.bind_some, if_neg (by decide), if_pos rfl, show (0 : Int) = ((0 : Nat) : Int) from rfl]
    rw [view_l100 md l hf l.length k 0 _ _ (by omega) (by omega) (by simp; omega) (by omega) (by omega)]
    rfl
theorem spans_is {k : Nat} {v : Int} {l : List S76} (hk : 400 < k) (hv0 : 0 ≤ v) (hv1 : v < 2) (hl : l.length ≤ 32) (hf : Fit l) (hx : ∀ x ∈ l, 0 ≤ x.f0 ∧ x.f0 ≤ 2) : valid_Spans.f k l v = some (spansW (10 + 2 * v) 3 l) := by
  obtain ⟨k, rfl⟩ : ∃ m, k = m + 3 := ⟨k - 3, by omega⟩
  have hvl := viewL_len (-1) l (20 * (10 + 2 * v))
  rw [valid_Spans.f, if_neg (by omega), decide_eq_false (by omega), valid_Spans.j0, if_neg (by decide)]
  rcases (by omega : v = 0 ∨ v = 1) with rfl | rfl
  · rw [if_pos rfl, (view_is (k := k + 2) (md := -1) (by omega) hv0 hv1 hl hf).1 rfl, Option.bind_some]
    have h := spans_l0 0 0 l hf rfl (-1) l k [⟨3, 0, 200, 0, 0, 0, -1, false⟩] 10 3 [] (by simp) (by simp; omega) (by omega) (by omega) hx (by simp; omega) (by omega) (by omega) (by omega) (by omega) (by omega)
    generalize hL : (⟨3, 0, 200 + 40 * 0, 0, 0, 0, -1, false⟩ : S47) :: viewL (-1) (200 + 40 * 0) l = L
    replace h : valid_Spans.l0 k 0 [] 60 L (L.length : Int) 1 0 l = some (spansW 10 3 l) := by rw [← hL]; exact h
    have hl0 : 0 < L.length := by rw [← hL]; simp
    have hg : rd_T47 L 0 = ⟨3, 0, 200, 0, 0, 0, -1, false⟩ := by rw [← hL]; rfl
    rw [valid_Spans.l0, if_pos (by omega), if_pos (by omega), if_pos (by omega), hg]
    show valid_Spans.j2 (k + 1) 0 [] 0 0 L _ 0 (3 != 3) 0 l 3 0 200 0 0 0 (-1) false = _
    rw [valid_Spans.j2, if_neg (by decide), pulse_long (by omega), Option.bind_some, if_neg (by decide)]
    simp only
    rw [show wrap64 (0 + 60) = 60 from wr (by omega) (by omega), show wrap64 (0 + 1) = 1 from wr (by omega) (by omega)]
    exact h
  · rw [if_neg (by decide), if_pos rfl, (view_is (k := k + 2) (md := -1) (by omega) hv0 hv1 hl hf).2 rfl, Option.bind_some]
    have h := spans_l100 1 0 l hf rfl (-1) l k [⟨3, 0, 240, 0, 0, 0, -1, false⟩] 12 3 [] (by simp) (by simp; omega) (by omega) (by omega) hx (by simp; omega) (by omega) (by omega) (by omega) (by omega) (by omega)
    generalize hL : (⟨3, 0, 200 + 40 * 1, 0, 0, 0, -1, false⟩ : S47) :: viewL (-1) (200 + 40 * 1) l = L
    replace h : valid_Spans.l100 k 1 [] 60 L (L.length : Int) 1 0 l = some (spansW 12 3 l) := by rw [← hL]; exact h
    have hl0 : 0 < L.length := by rw [← hL]; simp
    have hg : rd_T47 L 0 = ⟨3, 0, 240, 0, 0, 0, -1, false⟩ := by rw [← hL]; rfl
    rw [valid_Spans.l100, if_pos (by omega), if_pos (by omega), if_pos (by omega), hg]
    show valid_Spans.j4 (k + 1) 1 [] 0 0 L _ 0 (3 != 3) 0 l 3 0 240 0 0 0 (-1) false = _
    rw [valid_Spans.j4, if_neg (by decide), pulse_long (by omega), Option.bind_some, if_neg (by decide)]
    simp only
    rw [show wrap64 (0 + 60) = 60 from wr (by omega) (by omega), show wrap64 (0 + 1) = 1 from wr (by omega) (by omega)]
    exact h
/-- What Run answers. -/
def runP (md v : Int) (l : List S76) (e : Int) : List S47 × Int :=
  if e = 0 then (if mxl (spansW (10 + 2 * v) 3 l) ((spansW (10 + 2 * v) 3 l).length - 1) > 200 then ([], 16) else (⟨3, 0, 200 + 40 * v, 0, 0, 0, -1, false⟩ :: viewL md (200 + 40 * v) l, 0)) else ([], e)
theorem run_is {k : Nat} {md e0 e1 v : Int} {code : List Int} {l : List S76} {e : Int} (hk : 400 < k) (hw : walk_Windows.f md e0 e1 code v = some (l, e)) (hg : (e = 0 ∧ (0 ≤ v ∧ v < 2) ∧ (0 ≤ md ∧ md < 16) ∧ l.length ≤ 32 ∧ ∀ x ∈ l, GoodW md x) ∨ e ≠ 0) :
    walk_Run.f k md e0 e1 code v = some (runP md v l e) := by
  unfold walk_Run.f runP
  rw [hw, Option.bind_some]
  rcases hg with ⟨h0, hv, hmd, hl, hgood⟩ | h0
  · rw [if_pos h0, if_pos h0]
    have hf := fit_good hl hgood
    rw [spans_is hk hv.1 hv.2 hl hf.1 hf.2, Option.bind_some]
    have hne := spansW_ne l (10 + 2 * v) 3
    rw [slices_Max_int_int.f, if_neg (by omega), Option.bind_some]
    split
    · rfl
    · rcases (by omega : v = 0 ∨ v = 1) with rfl | rfl
      · rw [if_pos rfl, (view_is (by omega) hv.1 hv.2 hl hf.1).1 rfl]; rfl
      · rw [if_neg (by decide), if_pos rfl, (view_is (by omega) hv.1 hv.2 hl hf.1).2 rfl]; rfl
  · rw [if_neg h0, if_neg h0]
theorem b800 : Bytes [8, 0, 0] := by unfold Bytes; decide
theorem b470 : Bytes [4, 7, 0] := by unfold Bytes; decide
theorem jump_on (md : Int) : ∀ n : Nat, winL md [8, 0, 0] n 0 [] [] = some ([], 15)
  | 0 => rfl
  | n + 1 => by
    rw [winL, readF_is b800 (by decide)]
    have h : readP [8, 0, 0] 0 = ([8, 0, 0, 0, 0, 0, 0], 3, 0) := by decide
    rw [h, Option.bind_some]
    have hw : walk_window.f 16 8 0 0 0 0 0 0 md = some (0, 0, 0, 0, [], [], false) := by
      rw [window_f _ _ _ _ _ _ _ _ (by decide) (by decide)]; rfl
    show (if (0 : Int) = 0 then (if (8 : Int) = 0 then _ else if (0 : Int) = 0 then (walk_window.f 16 8 0 0 0 0 0 0 md).bind _ else _) else _) = _
    rw [if_pos rfl, if_neg (by decide), if_pos rfl, hw, Option.bind_some]
    exact jump_on md n
theorem gap_on (n : Nat) : winL 0 [4, 7, 0] (n + 2) 0 [] [] = some ([⟨1, 7, 0, 0, [], []⟩], 0) := by
  rw [winL, readF_is b470 (by decide), show readP [4, 7, 0] 0 = ([4, 0, 0, 0, 0, 7, 0], 2, 0) from by decide, Option.bind_some]
  show (if (0 : Int) = 0 then (if (4 : Int) = 0 then _ else if (0 : Int) = 0 then (walk_window.f 16 4 0 0 0 0 7 0 0).bind _ else _) else _) = _
  rw [if_pos rfl, if_neg (by decide), if_pos rfl, window_f _ _ _ _ _ _ _ _ (by decide) (by decide), Option.bind_some]
  show winL 0 [4, 7, 0] (n + 1) 2 [] [⟨1, 7, 0, 0, [], []⟩] = _
  rw [winL, readF_is b470 (by decide), show readP [4, 7, 0] 2 = ([0, 0, 0, 0, 0, 0, 0], 3, 0) from by decide, Option.bind_some]
  rfl
theorem one_true {k : Nat} (hk : 400 < k) : busbarlaw11_one.f k = some true := by
  have h1 : cmd_Command_Put.f 4 0 0 0 0 7 0 = some ([4, 7], 0) := by rw [cmd_Command_Put.f, if_pos (by decide)]
  have h2 : walk_Windows.f 0 0 0 ([4, 7] ++ [0]) 1 = some ([⟨1, 7, 0, 0, [], []⟩], 0) := by
    unfold walk_Windows.f
    rw [right_is]
    simp only [List.cons_append, List.nil_append]
    rw [show (decide _ : Bool) = true from by decide, Option.bind_some, if_pos rfl, if_neg (by decide), if_neg (by decide), if_neg (by decide)]
    exact gap_on 4094
  have h3 : walk_Windows.f 0 0 0 [8, 0, 0] 0 = some ([], 15) := by
    unfold walk_Windows.f
    rw [right_is]
    rw [show (decide _ : Bool) = true from by decide, Option.bind_some, if_pos rfl, if_neg (by decide), if_neg (by decide), if_pos rfl, jump_on]
  unfold busbarlaw11_one.f
  rw [h1, Option.bind_some]
  show (if [(4 : Int), 7].length < 140737488355328 then (walk_Run.f k 0 0 0 ([4, 7] ++ [0]) 1).bind _ else none) = _
  rw [if_pos (by decide), run_is hk h2 (.inl ⟨rfl, by decide, by decide, by decide, by
    intro x hx
    obtain rfl := List.mem_singleton.1 hx
    exact .inr (.inl ⟨rfl, rfl, rfl⟩)⟩), Option.bind_some, run_is hk h3 (.inr (by decide)), Option.bind_some]
  decide
theorem ends_l0 {md : Int} {k0 : Nat} (hone : ∀ k, k0 < k → busbarlaw11_one.f k = some true) : ∀ (xs : List S76) (k : Nat) (pre : List S47) (a b : Int), 2 * xs.length + k0 + 10 < k → pre.length + xs.length ≤ 2000 → (∀ x ∈ xs, GoodW md x) → 0 ≤ a → 0 ≤ b → a + 1000 * xs.length ≤ 10000000000 → b ≤ 10000000000 → (∀ s ∈ spansW a b xs, s ≤ 200) →
    busbarlaw11_WalkEnds.l0 k (pre ++ viewL md (20 * a) xs) (20 * a) (20 * b) (pre.length : Int) = some true := by
  intro xs
  induction xs with
  | nil =>
    intro k pre a b hk hp hg ha hb hab hbb hs
    obtain ⟨k, rfl⟩ : ∃ m, k = m + 3 := ⟨k - 3, by omega⟩
    have hl : (pre ++ viewL md (20 * a) []).length = pre.length + 1 := by simp [viewL]
    have hgt : (pre ++ viewL md (20 * a) [])[pre.length]'(by omega) = ⟨4, 20 * a, 120, 0, 0, 0, -1, false⟩ := by simp [viewL]
    have h9 := hs (a + 6 + 3 - b) (by simp [spansW])
    simp only [List.length_nil] at hp hab
    rw [busbarlaw11_WalkEnds.l0, if_pos (by omega), if_pos (by omega), rd47 (by omega), hgt]
    simp only
    rw [if_pos trivial, if_neg (by decide), busbarlaw11_WalkEnds.j2, if_neg (by decide), if_pos (by omega), if_pos (by omega), rd47 (by omega), hgt, pulse_f ⟨4, 20 * a, 120, 0, 0, 0, -1, false⟩ (by omega), Option.bind_some]
    simp only
    rw [if_neg (by decide), up (by omega), busbarlaw11_WalkEnds.l0, if_neg (by omega), wr (x := 20 * a + 120) (by omega) (by omega), wr (x := 20 * a + 120 + 60) (by omega) (by omega), wr (by omega) (by omega), if_pos (by omega), hone _ (by omega)]
    rfl
  | cons x xs ih =>
    intro k pre a b hk hp hg ha hb hab hbb hs
    obtain ⟨k, rfl⟩ : ∃ m, k = m + 2 := ⟨k - 2, by omega⟩
    have hgx := hg x (by simp)
    have hx0 : 0 ≤ x.f0 ∧ x.f0 ≤ 2 := by rcases hgx with h | h | h <;> omega
    have hbd := bitsOf_bd x
    simp only [List.length_cons] at hk hp hab
    have e : pre ++ viewL md (20 * a) (x :: xs) = (pre ++ [slotOf (20 * a) md x]) ++ viewL md (20 * (a + bitsOf x)) xs := by
      rw [viewL, if_neg (by omega), List.append_assoc, Int.mul_add]
      rfl
    rw [e]
    have hsp : spansW a b (x :: xs) = if x.f0 = 2 then (a + 2 - b) :: spansW (a + bitsOf x) (a + 2) xs else spansW (a + bitsOf x) b xs := by rw [spansW, if_neg (by omega)]
    rw [hsp] at hs
    clear hsp
    have hvl := viewL_len md xs (20 * (a + bitsOf x))
    have ih := fun b hb hbb hs => ih k (pre ++ [slotOf (20 * a) md x]) (a + bitsOf x) b (by omega) (by simp; omega) (fun y hy => hg y (by simp [hy])) (by omega) hb (by omega) hbb hs
    generalize hL : (pre ++ [slotOf (20 * a) md x]) ++ viewL md (20 * (a + bitsOf x)) xs = L at *
    have hl : L.length = pre.length + 1 + (viewL md (20 * (a + bitsOf x)) xs).length := by rw [← hL]; simp; omega
    have hgt : L[pre.length]'(by omega) = slotOf (20 * a) md x := by simp [← hL]
    have hpre : ((pre ++ [slotOf (20 * a) md x]).length : Int) = ((pre.length + 1 : Nat) : Int) := by simp
    rw [hpre] at ih
    have hs0 : (slotOf (20 * a) md x).f0 = x.f0 := by unfold slotOf; split <;> rfl
    have hs1 : (slotOf (20 * a) md x).f1 = 20 * a := by unfold slotOf; split <;> rfl
    have hs2 : (slotOf (20 * a) md x).f2 = 20 * bitsOf x := by unfold slotOf; split <;> rfl
    have hct : (slotOf (20 * a) md x).f7 = true → ¬ (slotOf (20 * a) md x).f6 ≥ 0 := by
      unfold slotOf
      split
      · rename_i h0
        simp only [decide_eq_true_eq]
        intro h7 h6
        rcases hgx with h | h | h
        · rcases h.2.2.2.2 with h5 | h5
          · rw [h5] at h7; simp [idxL] at h7
          · omega
        · omega
        · omega
      · intro h; cases h
    rw [busbarlaw11_WalkEnds.l0, if_pos (by omega), if_pos (by omega), rd47 (by omega), hgt, if_pos hs1]
    have key : busbarlaw11_WalkEnds.j2 (k + 1) L (20 * a) (20 * b) (pre.length : Int) false = some true := by
      rw [busbarlaw11_WalkEnds.j2, if_neg (by decide), if_pos (by omega), if_pos (by omega), rd47 (by omega), hgt]
      by_cases h2 : x.f0 = 2
      · rw [if_pos h2] at hs
        have hs9 := hs (a + 2 - b) (by simp)
        rw [pulse_short (hs0.trans h2) (by omega), Option.bind_some, if_pos (hs0.trans h2), hs2]
        rw [wr (x := 20 * a + 40) (by omega) (by omega), wr (x := 20 * a + 40 - 20 * b) (by omega) (by omega), if_neg (by omega), wr (by omega) (by omega), up (by omega), ← Int.mul_add, show 20 * a + 40 = 20 * (a + 2) by omega]
        exact ih _ (by omega) (by omega) (fun s h => hs s (by simp [h]))
      · rw [if_neg h2] at hs
        rw [pulse_f _ (by omega), Option.bind_some, if_neg (by rw [hs0]; exact h2), hs2, wr (by omega) (by omega), up (by omega), ← Int.mul_add]
        exact ih _ hb hbb hs
    by_cases h7 : (slotOf (20 * a) md x).f7 = true
    · rw [if_pos h7, decide_eq_false (hct h7)]; exact key
    · rw [if_neg h7]; exact key
theorem ends_pure (md e0 e1 : Int) (code : List Int) (v : Int) (hb : Bytes code) : busbarlaw11_WalkEnds.f 2000 md e0 e1 code v = some true := by
  unfold busbarlaw11_WalkEnds.f
  by_cases hl : (code.length : Int) > 1100
  · rw [if_pos hl]
  rw [if_neg hl]
  obtain ⟨l, e, hw, hh⟩ := windows_ok (md := md) (e0 := e0) (e1 := e1) (v := v) hb
  have hone : ∀ k, 400 < k → busbarlaw11_one.f k = some true := fun k hk => one_true hk
  have hrun := run_is (k := 2000) (by decide) hw (by rcases hh with h | h; exact .inl h; exact .inr (by omega))
  rw [hrun, Option.bind_some]
  have err : ∀ e : Int, e = 2 ∨ e = 10 ∨ e = 11 ∨ e = 14 ∨ e = 15 ∨ e = 16 → (if e = 2 then ((busbarlaw11_one.f 2000).bind fun t278 => (some t278)) else (if e = 10 then ((busbarlaw11_one.f 2000).bind fun t279 => (some t279)) else (if e = 11 then ((busbarlaw11_one.f 2000).bind fun t280 => (some t280)) else (if e = 14 then ((busbarlaw11_one.f 2000).bind fun t281 => (some t281)) else (if e = 15 then ((busbarlaw11_one.f 2000).bind fun t282 => (some t282)) else (if e = 16 then ((busbarlaw11_one.f 2000).bind fun t283 => (some t283)) else (some false))))))) = some true := by
    intro e he
    rw [hone 2000 (by decide)]
    rcases he with rfl | rfl | rfl | rfl | rfl | rfl <;> rfl
  rcases hh with ⟨rfl, hv, hmd, hl32, hg⟩ | ⟨rfl, he⟩
  · unfold runP
    rw [if_pos rfl]
    by_cases hm : mxl (spansW (10 + 2 * v) 3 l) ((spansW (10 + 2 * v) 3 l).length - 1) > 200
    · rw [if_pos hm]
      exact err 16 (by omega)
    · rw [if_neg hm]
      have hs := mxl_le (Int.not_lt.1 hm)
      have hvl := viewL_len md l (200 + 40 * v)
      have hE := ends_l0 (md := md) (k0 := 400) hone l 1997 [⟨3, 0, 200 + 40 * v, 0, 0, 0, -1, false⟩] (10 + 2 * v) 3 (by omega) (by simp; omega) hg (by omega) (by omega) (by omega) (by omega) hs
      rw [show 20 * (10 + 2 * v) = 200 + 40 * v by omega] at hE
      simp only
      have hlast : rd_T47 ((⟨3, 0, 200 + 40 * v, 0, 0, 0, -1, false⟩ : S47) :: viewL md (200 + 40 * v) l) ((viewL md (200 + 40 * v) l).length : Int) = ⟨4, 200 + 40 * v + ticksV l, 120, 0, 0, 0, -1, false⟩ := by
        rw [rd47 (by simp)]
        exact viewL_last md l (200 + 40 * v) _
      generalize hL : (⟨3, 0, 200 + 40 * v, 0, 0, 0, -1, false⟩ : S47) :: viewL md (200 + 40 * v) l = L at *
      have hLl : L.length = 1 + (viewL md (200 + 40 * v) l).length := by rw [← hL]; simp; omega
      have hg0 : rd_T47 L 0 = ⟨3, 0, 200 + 40 * v, 0, 0, 0, -1, false⟩ := by rw [← hL]; rfl
      have hw1 : wrap64 ((L.length : Int) - 1) = ((viewL md (200 + 40 * v) l).length : Int) := by rw [wr (by omega) (by omega)]; omega
      rw [if_pos trivial, if_neg (by omega), if_neg (by omega), if_pos (by omega), hg0, hw1]
      simp only
      rw [if_pos trivial, if_pos (by omega), if_pos (by omega), hlast]
      show busbarlaw11_WalkEnds.j0 2000 L false = _
      rw [busbarlaw11_WalkEnds.j0, if_neg (by decide), busbarlaw11_WalkEnds.l0, if_pos (by omega), if_pos (by decide), hg0]
      simp only
      rw [if_pos trivial, if_neg (by decide), busbarlaw11_WalkEnds.j2, if_neg (by decide), if_pos (by decide), if_pos (by omega), hg0, pulse_long (by decide), Option.bind_some]
      simp only
      rw [if_neg (by decide), wr (by omega) (by omega), show (0 : Int) + (200 + 40 * v) = 200 + 40 * v by omega]
      rw [← hL]
      rw [show wrap64 (0 + 1) = 1 from wr (by omega) (by omega)]
      exact hE
  · rw [show runP md v [] e = ([], e) from if_neg (by omega)]
    simp only
    rw [if_neg (show ¬ e = 0 by omega), if_pos (by rfl)]
    exact err e (by omega)
end Go.Proofs.Ytekbaconbemgpaa.PWe
