/- What views, frames and spans come to. Helper text. -/
import Derived.Test.YtekbaconbemgpaaWkPure
namespace Go.Proofs.Ytekbaconbemgpaa.PWe
open Go.RowKit Go.Proofs.YtekbaconbemgpaaW.PrintWords Go.Proofs.YtekbaconbemgpaaW.PrintLast Go.Proofs.YtekbaconbemgpaaW.PrintMore
set_option linter.unusedVariables false
set_option linter.unusedSimpArgs false

/-- Lists of windows that may be looked at. -/
def Fit (l : List S76) : Prop := l.length ≤ 1000 ∧ ∀ x ∈ l, x.f4.length ≤ 100 ∧ x.f5.length ≤ 100
def ticksL : List S76 → Int
  | [] => 0
  | x :: xs => 20 * bitsOf x + ticksL xs
theorem ticksL_bd : ∀ l : List S76, 0 ≤ ticksL l ∧ ticksL l ≤ 20000 * l.length
  | [] => by show (0 : Int) ≤ 0 ∧ (0 : Int) ≤ _; simp
  | x :: xs => by
    have := bitsOf_bd x
    have := ticksL_bd xs
    rw [ticksL, List.length_cons]
    omega
/-- The spans, in bits: a: where the next slot starts; b: where the last pulse did. -/
def spansW : Int → Int → List S76 → List Int
  | a, b, [] => [a + 6 + 3 - b]
  | a, b, x :: xs => if x.f0 < 0 ∨ x.f0 > 2 then spansW a b xs else if x.f0 = 2 then (a + 2 - b) :: spansW (a + bitsOf x) (a + 2) xs else spansW (a + bitsOf x) b xs
theorem tdiv20 {d : Int} (h0 : -1000000000000 ≤ d) (h1 : d ≤ 1000000000000) : wrap64 (Int.tdiv (wrap64 (20 * d)) 20) = d := by
  rw [wr (x := 20 * d) (by omega) (by omega), Int.mul_tdiv_cancel_left _ (by decide), wr (by omega) (by omega)]
theorem viewL_len (md : Int) : ∀ (l : List S76) (a : Int), 1 ≤ (viewL md a l).length ∧ (viewL md a l).length ≤ l.length + 1
  | [], a => by simp [viewL]
  | x :: xs, a => by
    rw [viewL]
    have h1 := viewL_len md xs a
    have h2 := viewL_len md xs (a + 20 * bitsOf x)
    split <;> simp only [List.length_cons] <;> omega
theorem is_f {v : Int} (h0 : 0 ≤ v) (h1 : v < 2) : plan_is.f v = some true := by rw [plan_is.f, if_pos h0, decide_eq_true h1]
theorem start_f {v : Int} (h0 : 0 ≤ v) (h1 : v < 2) : plan_start.f v = some (200 + 40 * v) := by
  rw [plan_start.f, wr (x := 2 * v) (by omega) (by omega), wr (x := 10 + _) (by omega) (by omega), wr (by omega) (by omega)]
  congr 1
  omega
theorem pulse_f {k : Nat} (s : S47) (h : 0 < k) : plan_Slot_Pulse.f k s.f0 s.f1 s.f2 s.f3 s.f4 s.f5 s.f6 s.f7 = some (if s.f0 = 0 then (wrap64 (s.f2 - 80), wrap64 (s.f2 - 40)) else if s.f0 = 2 ∨ s.f0 = 4 then (40, 80) else if s.f0 = 3 then (60, wrap64 (s.f2 - 60)) else (0, 0)) := by
  obtain ⟨k, rfl⟩ : ∃ m, k = m + 1 := ⟨k - 1, by omega⟩
  unfold plan_Slot_Pulse.f
  by_cases h0 : s.f0 = 0
  · rw [if_pos h0, if_pos h0]
  rw [if_neg h0, if_neg h0]
  by_cases h2 : s.f0 = 2
  · rw [if_pos h2, if_pos (.inl h2), plan_Slot_Pulse.j0, if_pos (by simp [h2])]
  rw [if_neg h2, plan_Slot_Pulse.j0]
  by_cases h4 : s.f0 = 4
  · rw [if_pos (by simp [h4]), if_pos (.inr h4)]
  rw [if_neg (by simp [h4]), if_neg (show ¬ (s.f0 = 2 ∨ s.f0 = 4) by omega)]
  split <;> rfl
theorem pulse_short {k : Nat} {s : S47} (hs : s.f0 = 2) (h : 0 < k) : plan_Slot_Pulse.f k s.f0 s.f1 s.f2 s.f3 s.f4 s.f5 s.f6 s.f7 = some (40, 80) := by
  rw [pulse_f s h, if_neg (by omega), if_pos (.inl hs)]
theorem view_l0 (md : Int) (l : List S76) (hg : Fit l) : ∀ (d k i : Nat) (at_ : Int) (out : List S47), i + d = l.length → 2 * d + 102 < k → out.length + d ≤ 100000 → 0 ≤ at_ → at_ + 20000 * d ≤ 1000000000000 →
    plan_View.l0 k md at_ out l (l.length : Int) (i : Int) = some (out ++ viewL md at_ (l.drop i)) := by
  intro d
  induction d with
  | zero =>
    intro k i at_ out hi hk ho ha hb
    obtain ⟨k, rfl⟩ : ∃ m, k = m + 1 := ⟨k - 1, by omega⟩
    rw [plan_View.l0, if_neg (by omega), if_pos (by omega), List.drop_eq_nil_of_le (by omega)]
    rfl
  | succ d ih =>
    intro k i at_ out hi hk ho ha hb
    obtain ⟨k, rfl⟩ : ∃ m, k = m + 2 := ⟨k - 2, by omega⟩
    have hil : i < l.length := by omega
    have hx := hg.2 l[i] (List.getElem_mem hil)
    have hbd := bitsOf_bd l[i]
    rw [plan_View.l0, if_pos (by omega), if_pos (by omega), if_pos (by omega), rd76 hil, List.drop_eq_getElem_cons hil, viewL]
    have e : ∀ b : Bool, decide (l[i].f0 < 0 ∨ l[i].f0 > 2) = b → plan_View.j1 (k + 1) md at_ out l (l.length : Int) (i : Int) b l[i].f0 l[i].f1 l[i].f2 l[i].f3 l[i].f4 l[i].f5 = some (out ++ if l[i].f0 < 0 ∨ l[i].f0 > 2 then viewL md at_ (l.drop (i + 1)) else slotOf at_ md l[i] :: viewL md (at_ + 20 * bitsOf l[i]) (l.drop (i + 1))) := by
      intro b hb2
      rw [plan_View.j1]
      cases b with
      | true =>
        have h := of_decide_eq_true hb2
        rw [if_pos rfl, if_pos h, up (by have := hg.1; omega)]
        exact ih k (i + 1) at_ out (by omega) (by omega) (by omega) ha (by omega)
      | false =>
        have h := of_decide_eq_false hb2
        rw [if_neg (by decide), if_neg h, slot_f _ _ _ hx.1 (by omega) hx.2 (by omega)]
        show (if out.length < 2199023255552 then (plan_Ticks.f l[i].f0 l[i].f1 l[i].f2 l[i].f3 l[i].f4 l[i].f5).bind _ else none) = _
        rw [if_pos (by omega), ticks_f]
        show plan_View.l0 k md (wrap64 (at_ + 20 * bitsOf l[i])) (out ++ [slotOf at_ md l[i]]) l (l.length : Int) (wrap64 ((i : Int) + 1)) = _
        rw [wr (by omega) (by omega), up (by have := hg.1; omega), ih k (i + 1) _ _ (by omega) (by omega) (by simp; omega) (by omega) (by omega), List.append_assoc]
        rfl
    by_cases h0 : l[i].f0 < 0
    · rw [if_pos h0]
      exact e true (by simp [h0])
    · rw [if_neg h0]
      exact e _ (by simp [h0])
theorem frame_l0 (l : List S76) (hg : Fit l) : ∀ (d k i : Nat) (acc : Int), i + d = l.length → d < k → 0 ≤ acc → acc + 20000 * d ≤ 1000000000000 → plan_Frame.l0 k acc l (l.length : Int) (i : Int) = some (acc + ticksL (l.drop i)) := by
  intro d
  induction d with
  | zero =>
    intro k i acc hi hk ha hb
    obtain ⟨k, rfl⟩ : ∃ m, k = m + 1 := ⟨k - 1, by omega⟩
    rw [plan_Frame.l0, if_neg (by omega), List.drop_eq_nil_of_le (by omega)]
    simp [ticksL]
  | succ d ih =>
    intro k i acc hi hk ha hb
    obtain ⟨k, rfl⟩ : ∃ m, k = m + 1 := ⟨k - 1, by omega⟩
    have hil : i < l.length := by omega
    have hbd := bitsOf_bd l[i]
    rw [plan_Frame.l0, if_pos (by omega), if_pos (by omega), if_pos (by omega), rd76 hil, ticks_f]
    show plan_Frame.l0 k (wrap64 (acc + 20 * bitsOf l[i])) l (l.length : Int) (wrap64 ((i : Int) + 1)) = _
    rw [wr (by omega) (by omega), up (by have := hg.1; omega), ih k (i + 1) _ (by omega) (by omega) (by omega) (by omega), List.drop_eq_getElem_cons hil, ticksL]
    congr 1
    omega
theorem spans_l0 (v m0 : Int) (w : List S76) (hw : Fit w) (hv : v = 0) (md : Int) : ∀ (xs : List S76) (k : Nat) (pre : List S47) (a b : Int) (out : List Int), 0 < pre.length → pre.length + xs.length ≤ 2000 → 2 * xs.length + w.length + 210 < k → xs.length ≤ 1000 → (∀ x ∈ xs, 0 ≤ x.f0 ∧ x.f0 ≤ 2) → out.length + xs.length ≤ 100000 → 0 ≤ a → 0 ≤ b → a + 1000 * xs.length ≤ 10000000000 → b ≤ 10000000000 →
    20 * a + ticksL xs = 200 + 40 * v + ticksL w → valid_Spans.l0 k v out (20 * b) (pre ++ viewL md (20 * a) xs) ((pre ++ viewL md (20 * a) xs).length : Int) (pre.length : Int) m0 w = some (out ++ spansW a b xs) := by
  intro xs
  induction xs with
  | nil =>
    intro k pre a b out hp hpl hk hxl hx ho ha hb hab hbb ht
    obtain ⟨k, rfl⟩ : ∃ m, k = m + 3 := ⟨k - 3, by omega⟩
    have hl : (pre ++ viewL md (20 * a) []).length = pre.length + 1 := by simp [viewL]
    have hg : (pre ++ viewL md (20 * a) [])[pre.length]'(by omega) = ⟨4, 20 * a, 120, 0, 0, 0, -1, false⟩ := by simp [viewL]
    rw [valid_Spans.l0, if_pos (by omega), if_pos (by omega), if_pos (by omega), rd47 (by omega), hg]
    simp only
    rw [if_neg (by decide), valid_Spans.j2, if_pos (by decide), up (by omega), valid_Spans.l0, if_neg (by omega), pulse_f ⟨3, 0, 0, 0, 0, 0, 0, false⟩ (by omega)]
    simp only [Option.bind_some]
    rw [if_neg (by decide), if_neg (by decide), if_pos (by decide)]
    have hn : 200 + 40 * v + 120 + ticksL w ≤ 100000000000 := by have := (ticksL_bd w).2; have := hw.1; omega
    have hn0 := (ticksL_bd w).1
    have hfr : plan_Frame.f k m0 w ([] : List (S76)) v = some (200 + 40 * v + 120 + ticksL w) := by
      subst hv
      rw [plan_Frame.f, is_f (by decide) (by decide)]
      simp only [Option.bind_some]
      rw [if_pos trivial, start_f (by decide) (by decide)]
      simp only [Option.bind_some]
      rw [if_pos trivial]
      rw [wr (by omega) (by omega), show (0 : Int) = ((0 : Nat) : Int) from rfl, frame_l0 w hw w.length k 0 _ (by omega) (by simp only [List.length_nil] at hk; omega) (by omega) (by have := hw.1; omega)]
      rfl
    rw [hfr]
    simp only [Option.bind_some]
    simp only [ticksL] at ht
    rw [if_pos (by simp only [List.length_nil] at ho; omega), wr (x := 200 + 40 * v + 120 + ticksL w + 60) (by omega) (by omega)]
    rw [show 200 + 40 * v + 120 + ticksL w + 60 - 20 * b = 20 * (a + 6 + 3 - b) by omega, tdiv20 (by simp only [List.length_nil] at hab; omega) (by simp only [List.length_nil] at hab; omega)]
    rfl
  | cons x xs IH =>
    intro k pre a b out hp hpl hk hxl hx ho ha hb hab hbb ht
    obtain ⟨k, rfl⟩ : ∃ m, k = m + 2 := ⟨k - 2, by omega⟩
    have hx0 := hx x (by simp)
    have hbd := bitsOf_bd x
    simp only [List.length_cons] at hpl hk hxl ho hab
    rw [ticksL] at ht
    have e : pre ++ viewL md (20 * a) (x :: xs) = (pre ++ [slotOf (20 * a) md x]) ++ viewL md (20 * (a + bitsOf x)) xs := by
      rw [viewL, if_neg (by omega), List.append_assoc, Int.mul_add]
      rfl
    rw [e]
    have hvl := viewL_len md xs (20 * (a + bitsOf x))
    generalize hL : (pre ++ [slotOf (20 * a) md x]) ++ viewL md (20 * (a + bitsOf x)) xs = L
    have hl : L.length = pre.length + 1 + (viewL md (20 * (a + bitsOf x)) xs).length := by rw [← hL]; simp; omega
    have hg : L[pre.length]'(by omega) = slotOf (20 * a) md x := by simp [← hL]
    have hpre : ((pre ++ [slotOf (20 * a) md x]).length : Int) = ((pre.length + 1 : Nat) : Int) := by simp
    have hs0 : (slotOf (20 * a) md x).f0 = x.f0 := by unfold slotOf; split <;> rfl
    have hs1 : (slotOf (20 * a) md x).f1 = 20 * a := by unfold slotOf; split <;> rfl
    rw [valid_Spans.l0, if_pos (by omega), if_pos (by omega), if_pos (by omega), rd47 (by omega), hg]
    have hsp : spansW a b (x :: xs) = if x.f0 = 2 then (a + 2 - b) :: spansW (a + bitsOf x) (a + 2) xs else spansW (a + bitsOf x) b xs := by rw [spansW, if_neg (by omega)]
    rw [hsp]
    clear hsp
    have ih := fun b out ho hb hbb => IH k (pre ++ [slotOf (20 * a) md x]) (a + bitsOf x) b out (by simp) (by simp; omega) (by omega) (by omega) (fun y hy => hx y (by simp [hy])) ho (by omega) hb (by omega) hbb (by omega)
    rw [hpre, hL] at ih
    by_cases h2 : x.f0 = 2
    · rw [if_pos (by rw [hs0]; exact h2), if_pos h2, valid_Spans.j2, if_neg (by decide), pulse_short (hs0.trans h2) (by omega)]
      simp only [Option.bind_some]
      rw [if_pos (show (pre.length : Int) > 0 by omega), if_pos (show out.length < 17592186044416 by omega), hs1, wr (x := 20 * a + 40) (by omega) (by omega), up (by omega)]
      rw [show 20 * a + 40 - 20 * b = 20 * (a + 2 - b) by omega, tdiv20 (by omega) (by omega), show 20 * a + 40 = 20 * (a + 2) by omega]
      rw [ih _ _ (by simp; omega) (by omega) (by omega), List.append_assoc]
      rfl
    · rw [if_neg (by rw [hs0]; exact h2), if_neg h2, valid_Spans.j2, if_pos (by rw [hs0]; simp; omega), up (by omega)]
      exact ih _ _ (by omega) (by omega) (by omega)
theorem view_l100 (md : Int) (l : List S76) (hg : Fit l) : ∀ (d k i : Nat) (at_ : Int) (out : List S47), i + d = l.length → 2 * d + 102 < k → out.length + d ≤ 100000 → 0 ≤ at_ → at_ + 20000 * d ≤ 1000000000000 →
    plan_View.l100 k md at_ out l (l.length : Int) (i : Int) = some (out ++ viewL md at_ (l.drop i)) := by
  intro d
  induction d with
  | zero =>
    intro k i at_ out hi hk ho ha hb
    obtain ⟨k, rfl⟩ : ∃ m, k = m + 1 := ⟨k - 1, by omega⟩
    rw [plan_View.l100, if_neg (by omega), if_pos (by omega), List.drop_eq_nil_of_le (by omega)]
    rfl
  | succ d ih =>
    intro k i at_ out hi hk ho ha hb
    obtain ⟨k, rfl⟩ : ∃ m, k = m + 2 := ⟨k - 2, by omega⟩
    have hil : i < l.length := by omega
    have hx := hg.2 l[i] (List.getElem_mem hil)
    have hbd := bitsOf_bd l[i]
    rw [plan_View.l100, if_pos (by omega), if_pos (by omega), if_pos (by omega), rd76 hil, List.drop_eq_getElem_cons hil, viewL]
    have e : ∀ b : Bool, decide (l[i].f0 < 0 ∨ l[i].f0 > 2) = b → plan_View.j3 (k + 1) md at_ out l (l.length : Int) (i : Int) b l[i].f0 l[i].f1 l[i].f2 l[i].f3 l[i].f4 l[i].f5 = some (out ++ if l[i].f0 < 0 ∨ l[i].f0 > 2 then viewL md at_ (l.drop (i + 1)) else slotOf at_ md l[i] :: viewL md (at_ + 20 * bitsOf l[i]) (l.drop (i + 1))) := by
      intro b hb2
      rw [plan_View.j3]
      cases b with
      | true =>
        have h := of_decide_eq_true hb2
        rw [if_pos rfl, if_pos h, up (by have := hg.1; omega)]
        exact ih k (i + 1) at_ out (by omega) (by omega) (by omega) ha (by omega)
      | false =>
        have h := of_decide_eq_false hb2
        rw [if_neg (by decide), if_neg h, slot_f _ _ _ hx.1 (by omega) hx.2 (by omega)]
        show (if out.length < 2199023255552 then (plan_Ticks.f l[i].f0 l[i].f1 l[i].f2 l[i].f3 l[i].f4 l[i].f5).bind _ else none) = _
        rw [if_pos (by omega), ticks_f]
        show plan_View.l100 k md (wrap64 (at_ + 20 * bitsOf l[i])) (out ++ [slotOf at_ md l[i]]) l (l.length : Int) (wrap64 ((i : Int) + 1)) = _
        rw [wr (by omega) (by omega), up (by have := hg.1; omega), ih k (i + 1) _ _ (by omega) (by omega) (by simp; omega) (by omega) (by omega), List.append_assoc]
        rfl
    by_cases h0 : l[i].f0 < 0
    · rw [if_pos h0]
      exact e true (by simp [h0])
    · rw [if_neg h0]
      exact e _ (by simp [h0])
theorem frame_l100 (l : List S76) (hg : Fit l) : ∀ (d k i : Nat) (acc : Int), i + d = l.length → d < k → 0 ≤ acc → acc + 20000 * d ≤ 1000000000000 → plan_Frame.l100 k acc l (l.length : Int) (i : Int) = some (acc + ticksL (l.drop i)) := by
  intro d
  induction d with
  | zero =>
    intro k i acc hi hk ha hb
    obtain ⟨k, rfl⟩ : ∃ m, k = m + 1 := ⟨k - 1, by omega⟩
    rw [plan_Frame.l100, if_neg (by omega), List.drop_eq_nil_of_le (by omega)]
    simp [ticksL]
  | succ d ih =>
    intro k i acc hi hk ha hb
    obtain ⟨k, rfl⟩ : ∃ m, k = m + 1 := ⟨k - 1, by omega⟩
    have hil : i < l.length := by omega
    have hbd := bitsOf_bd l[i]
    rw [plan_Frame.l100, if_pos (by omega), if_pos (by omega), if_pos (by omega), rd76 hil, ticks_f]
    show plan_Frame.l100 k (wrap64 (acc + 20 * bitsOf l[i])) l (l.length : Int) (wrap64 ((i : Int) + 1)) = _
    rw [wr (by omega) (by omega), up (by have := hg.1; omega), ih k (i + 1) _ (by omega) (by omega) (by omega) (by omega), List.drop_eq_getElem_cons hil, ticksL]
    congr 1
    omega
theorem spans_l100 (v m0 : Int) (w : List S76) (hw : Fit w) (hv : v = 1) (md : Int) : ∀ (xs : List S76) (k : Nat) (pre : List S47) (a b : Int) (out : List Int), 0 < pre.length → pre.length + xs.length ≤ 2000 → 2 * xs.length + w.length + 210 < k → xs.length ≤ 1000 → (∀ x ∈ xs, 0 ≤ x.f0 ∧ x.f0 ≤ 2) → out.length + xs.length ≤ 100000 → 0 ≤ a → 0 ≤ b → a + 1000 * xs.length ≤ 10000000000 → b ≤ 10000000000 →
    20 * a + ticksL xs = 200 + 40 * v + ticksL w → valid_Spans.l100 k v out (20 * b) (pre ++ viewL md (20 * a) xs) ((pre ++ viewL md (20 * a) xs).length : Int) (pre.length : Int) m0 w = some (out ++ spansW a b xs) := by
  intro xs
  induction xs with
  | nil =>
    intro k pre a b out hp hpl hk hxl hx ho ha hb hab hbb ht
    obtain ⟨k, rfl⟩ : ∃ m, k = m + 3 := ⟨k - 3, by omega⟩
    have hl : (pre ++ viewL md (20 * a) []).length = pre.length + 1 := by simp [viewL]
    have hg : (pre ++ viewL md (20 * a) [])[pre.length]'(by omega) = ⟨4, 20 * a, 120, 0, 0, 0, -1, false⟩ := by simp [viewL]
    rw [valid_Spans.l100, if_pos (by omega), if_pos (by omega), if_pos (by omega), rd47 (by omega), hg]
    simp only
    rw [if_neg (by decide), valid_Spans.j4, if_pos (by decide), up (by omega), valid_Spans.l100, if_neg (by omega), pulse_f ⟨3, 0, 0, 0, 0, 0, 0, false⟩ (by omega)]
    simp only [Option.bind_some]
    rw [if_neg (by decide), if_neg (by decide), if_pos (by decide)]
    have hn : 200 + 40 * v + 120 + ticksL w ≤ 100000000000 := by have := (ticksL_bd w).2; have := hw.1; omega
    have hn0 := (ticksL_bd w).1
    have hfr : plan_Frame.f k m0 ([] : List (S76)) w v = some (200 + 40 * v + 120 + ticksL w) := by
      subst hv
      rw [plan_Frame.f, is_f (by decide) (by decide)]
      simp only [Option.bind_some]
      rw [if_pos trivial, start_f (by decide) (by decide)]
      simp only [Option.bind_some]
      rw [if_neg (by decide), if_pos trivial]
      rw [wr (by omega) (by omega), show (0 : Int) = ((0 : Nat) : Int) from rfl, frame_l100 w hw w.length k 0 _ (by omega) (by simp only [List.length_nil] at hk; omega) (by omega) (by have := hw.1; omega)]
      rfl
    rw [hfr]
    simp only [Option.bind_some]
    simp only [ticksL] at ht
    rw [if_pos (by simp only [List.length_nil] at ho; omega), wr (x := 200 + 40 * v + 120 + ticksL w + 60) (by omega) (by omega)]
    rw [show 200 + 40 * v + 120 + ticksL w + 60 - 20 * b = 20 * (a + 6 + 3 - b) by omega, tdiv20 (by simp only [List.length_nil] at hab; omega) (by simp only [List.length_nil] at hab; omega)]
    rfl
  | cons x xs IH =>
    intro k pre a b out hp hpl hk hxl hx ho ha hb hab hbb ht
    obtain ⟨k, rfl⟩ : ∃ m, k = m + 2 := ⟨k - 2, by omega⟩
    have hx0 := hx x (by simp)
    have hbd := bitsOf_bd x
    simp only [List.length_cons] at hpl hk hxl ho hab
    rw [ticksL] at ht
    have e : pre ++ viewL md (20 * a) (x :: xs) = (pre ++ [slotOf (20 * a) md x]) ++ viewL md (20 * (a + bitsOf x)) xs := by
      rw [viewL, if_neg (by omega), List.append_assoc, Int.mul_add]
      rfl
    rw [e]
    have hvl := viewL_len md xs (20 * (a + bitsOf x))
    generalize hL : (pre ++ [slotOf (20 * a) md x]) ++ viewL md (20 * (a + bitsOf x)) xs = L
    have hl : L.length = pre.length + 1 + (viewL md (20 * (a + bitsOf x)) xs).length := by rw [← hL]; simp; omega
    have hg : L[pre.length]'(by omega) = slotOf (20 * a) md x := by simp [← hL]
    have hpre : ((pre ++ [slotOf (20 * a) md x]).length : Int) = ((pre.length + 1 : Nat) : Int) := by simp
    have hs0 : (slotOf (20 * a) md x).f0 = x.f0 := by unfold slotOf; split <;> rfl
    have hs1 : (slotOf (20 * a) md x).f1 = 20 * a := by unfold slotOf; split <;> rfl
    rw [valid_Spans.l100, if_pos (by omega), if_pos (by omega), if_pos (by omega), rd47 (by omega), hg]
    have hsp : spansW a b (x :: xs) = if x.f0 = 2 then (a + 2 - b) :: spansW (a + bitsOf x) (a + 2) xs else spansW (a + bitsOf x) b xs := by rw [spansW, if_neg (by omega)]
    rw [hsp]
    clear hsp
    have ih := fun b out ho hb hbb => IH k (pre ++ [slotOf (20 * a) md x]) (a + bitsOf x) b out (by simp) (by simp; omega) (by omega) (by omega) (fun y hy => hx y (by simp [hy])) ho (by omega) hb (by omega) hbb (by omega)
    rw [hpre, hL] at ih
    by_cases h2 : x.f0 = 2
    · rw [if_pos (by rw [hs0]; exact h2), if_pos h2, valid_Spans.j4, if_neg (by decide), pulse_short (hs0.trans h2) (by omega)]
      simp only [Option.bind_some]
      rw [if_pos (show (pre.length : Int) > 0 by omega), if_pos (show out.length < 17592186044416 by omega), hs1, wr (x := 20 * a + 40) (by omega) (by omega), up (by omega)]
      rw [show 20 * a + 40 - 20 * b = 20 * (a + 2 - b) by omega, tdiv20 (by omega) (by omega), show 20 * a + 40 = 20 * (a + 2) by omega]
      rw [ih _ _ (by simp; omega) (by omega) (by omega), List.append_assoc]
      rfl
    · rw [if_neg (by rw [hs0]; exact h2), if_neg h2, valid_Spans.j4, if_pos (by rw [hs0]; simp; omega), up (by omega)]
      exact ih _ _ (by omega) (by omega) (by omega)
end Go.Proofs.Ytekbaconbemgpaa.PWe
