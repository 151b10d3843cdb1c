/- What a walk comes to, in plain words. Helper text. -/
import Derived.Test.YtekbaconbemgpaaWkPure3
namespace Go.Proofs.Ytekbaconbemgpaa.PWe
open Go.RowKit Go.Proofs.YtekbaconbemgpaaW.PrintWords Go.Proofs.YtekbaconbemgpaaW.PrintLast Go.Proofs.YtekbaconbemgpaaW.PrintMore
set_option linter.unusedVariables false
set_option linter.unusedSimpArgs false

/-- The window that a command is. -/
def windowP (md op a w c m bi : Int) : Option S76 :=
  if op = 4 then some ⟨1, bi, 0, 0, [], []⟩ else if op = 5 then some ⟨2, 0, 0, 0, [], []⟩ else if op = 1 then some ⟨0, 0, w, a, fromL m c md, []⟩ else
  if op = 2 then some ⟨0, 0, w, a, fromL m (-1) md, [md]⟩ else if op = 3 then some ⟨0, 0, w, a, fromL m (-1) md, []⟩ else none
def tup : Option S76 → Int × Int × Int × Int × List Int × List Int × Bool
  | some x => (x.f0, x.f1, x.f2, x.f3, x.f4, x.f5, true)
  | none => (0, 0, 0, 0, [], [], false)
theorem window_f (md op a w c m bi t : Int) (h0 : 0 ≤ m) (h1 : m ≤ 4) : walk_window.f 16 op a w c m bi t md = some (tup (windowP md op a w c m bi)) := by
  unfold walk_window.f
  rw [from_f _ _ h0 (by omega) (by omega), from_f _ _ h0 (by omega) (by omega)]
  simp only [Option.bind_some]
  unfold windowP
  repeat' split
  all_goals simp_all [tup]
/-- A command that is right, without what does not count. -/
def CmdOK (C : List Int) : Prop := ∃ op a w c m bi t, C = [op, a, w, c, m, bi, t] ∧ rightP op a w c m bi t = true ∧ (¬ (op = 1 ∨ op = 2 ∨ op = 3) → m = 0) ∧ (op = 3 → a = 0)
theorem cmd_ok {b : List Int} {at_ op : Int} (h : rightL (cmdP b at_ op) = true) : CmdOK (cmdP b at_ op) := by
  have key : ∀ a w c m bi t : Int, cmdP b at_ op = [op, a, w, c, m, bi, t] → (¬ (op = 1 ∨ op = 2 ∨ op = 3) → m = 0) → (op = 3 → a = 0) → CmdOK (cmdP b at_ op) := by
    intro a w c m bi t e hm ha
    rw [e] at h ⊢
    exact ⟨op, a, w, c, m, bi, t, rfl, h, hm, ha⟩
  clear h
  unfold cmdP at key ⊢
  repeat' split
  all_goals simp_all
theorem readP_ok {b : List Int} {at_ : Int} : ((readP b at_).2.2 = 0 ∧ CmdOK (readP b at_).1 ∧ 0 ≤ at_ ∧ at_ < (b.length : Int) ∧ (readP b at_).1 = cmdP b at_ (rd b at_) ∧ (readP b at_).2.1 = at_ + longP (rd b at_)) ∨ ((readP b at_).2.2 = 2 ∨ (readP b at_).2.2 = 10 ∨ (readP b at_).2.2 = 11) := by
  unfold readP
  repeat' split
  all_goals simp only [true_and, Int.reduceEq, false_and, or_true, true_or, or_false, false_or]
  all_goals first | trivial | skip
  rename_i h0 h1 h2 h3 h4
  exact ⟨cmd_ok h4, by omega, by omega, trivial⟩
def GoodW (md : Int) (x : S76) : Prop := (x.f0 = 0 ∧ (1 ≤ x.f2 ∧ x.f2 ≤ 8) ∧ (1 ≤ x.f4.length ∧ x.f4.length ≤ 4) ∧ x.f5.length ≤ 1 ∧ (x.f5 = [] ∨ idxL md (x.f4.take 4) 0 = -1)) ∨ (x.f0 = 1 ∧ x.f4 = [] ∧ x.f5 = []) ∨ (x.f0 = 2 ∧ x.f4 = [] ∧ x.f5 = [])
theorem fromL_none {m md : Int} (hmd : 0 ≤ md) : ∀ x ∈ fromL m (-1) md, x ≠ md := by
  intro x hx
  unfold fromL at hx
  obtain ⟨k, _, rfl⟩ := List.mem_map.1 hx
  rw [if_neg (by omega)]
  omega
theorem good_window {md op a w c m bi t : Int} {x : S76} (hmd : 0 ≤ md) (hr : rightP op a w c m bi t = true) (h : windowP md op a w c m bi = some x) : GoodW md x := by
  rw [rightP_iff] at hr
  unfold windowP at h
  unfold GoodW
  repeat' split at h
  all_goals first | cases h | skip
  all_goals simp only [fromL_len, List.length_singleton, List.length_nil]
  all_goals simp
  all_goals first | omega | skip
  all_goals refine ⟨by omega, by omega, ?_⟩
  · exact idxL_neg _ _ fun y hy => fromL_none hmd y (List.mem_of_mem_take hy)
theorem turnF_err (op tt at_ : Int) (back : List Int) : (turnF op tt at_ back).1 = 0 ∨ (turnF op tt at_ back).1 = 11 ∨ (turnF op tt at_ back).1 = 14 := by
  unfold turnF
  repeat' split
  all_goals simp
theorem win_ok {md : Int} (hmd : 0 ≤ md) {code : List Int} (hb : Bytes code) (hl : code.length ≤ 100000) : ∀ (n : Nat) (at_ : Int) (back : List Int) (out : List S76), (∀ x ∈ out, GoodW md x) → out.length ≤ 32 →
    ∃ l e, winL md code n at_ back out = some (l, e) ∧ ((e = 0 ∧ l.length ≤ 32 ∧ ∀ x ∈ l, GoodW md x) ∨ (l = [] ∧ (e = 2 ∨ e = 10 ∨ e = 11 ∨ e = 14 ∨ e = 15))) := by
  intro n
  induction n with
  | zero => intro at_ back out ho hol; exact ⟨_, _, rfl, .inr ⟨rfl, by omega⟩⟩
  | succ n ih =>
    intro at_ back out ho hol
    rw [winL, readF_is hb hl, Option.bind_some]
    rcases readP_ok (b := code) (at_ := at_) with ⟨h0, ⟨op, a, w, c, m, bi, t, hC, hr, hm, -⟩, -, -, -, -⟩ | he
    · rw [if_pos h0, hC]
      simp only [List.getD_cons_zero, List.getD_cons_succ]
      have hrr := (rightP_iff _ _ _ _ _ _ _).1 hr
      have hm4 : 0 ≤ m ∧ m ≤ 4 := by
        by_cases h : op = 1 ∨ op = 2 ∨ op = 3
        · have := (hrr.2.1 h).2; omega
        · have := hm h; omega
      by_cases hop : op = 0
      · rw [if_pos hop]
        exact ⟨_, _, rfl, .inl ⟨rfl, hol, ho⟩⟩
      rw [if_neg hop]
      by_cases ht : (turnF op t (readP code at_).2.1 back).1 = 0
      · rw [if_pos ht, window_f _ _ _ _ _ _ _ _ hm4.1 hm4.2, Option.bind_some]
        cases hw : windowP md op a w c m bi with
        | none =>
          rw [if_neg (by simp [tup])]
          exact ih _ _ _ ho hol
        | some x =>
          rw [if_pos (by simp [tup])]
          by_cases h32 : 32 ≤ (out.length : Int)
          · rw [if_pos h32]
            exact ⟨_, _, rfl, .inr ⟨rfl, by omega⟩⟩
          · rw [if_neg h32]
            refine ih _ _ _ ?_ (by simp; omega)
            intro y hy
            rcases List.mem_append.1 hy with hy | hy
            · exact ho y hy
            · obtain rfl := List.mem_singleton.1 hy
              exact good_window hmd hr hw
      · rw [if_neg ht]
        refine ⟨_, _, rfl, .inr ⟨rfl, ?_⟩⟩
        rcases turnF_err op t (readP code at_).2.1 back with h | h | h
        · exact absurd h ht
        · omega
        · omega
    · rw [if_neg (by omega)]
      exact ⟨_, _, rfl, .inr ⟨rfl, by omega⟩⟩
theorem right_is {md e0 e1 : Int} {code : List Int} : image_Image_Right.f md e0 e1 code = some (decide ((0 ≤ md ∧ md < 16) ∧ (code.length : Int) ≤ 1024 ∧ (0 ≤ e0 ∧ e0 < (code.length : Int)) ∧ (0 ≤ e1 ∧ e1 < (code.length : Int)))) := by
  have hw : ∀ a b : Int, image_within.f a b = some (decide (0 ≤ a ∧ a < b)) := by
    intro a b
    unfold image_within.f
    by_cases h : a ≥ 0
    · rw [if_pos h]; congr 1; simp [h]
    · rw [if_neg h]; congr 1; simp; omega
  unfold image_Image_Right.f
  rw [hw, hw, hw]
  by_cases h1 : 0 ≤ md ∧ md < 16
  · by_cases h2 : (code.length : Int) ≤ 1024
    · by_cases h3 : 0 ≤ e0 ∧ e0 < (code.length : Int)
      · simp [h1, h2, h3]
      · simp [h1, h2, h3]
    · simp [h1, h2]
  · simp [h1]
/-- What a walk ends by. -/
theorem windows_ok {md e0 e1 v : Int} {code : List Int} (hb : Bytes code) : ∃ l e, walk_Windows.f md e0 e1 code v = some (l, e) ∧ ((e = 0 ∧ (0 ≤ v ∧ v < 2) ∧ (0 ≤ md ∧ md < 16) ∧ l.length ≤ 32 ∧ ∀ x ∈ l, GoodW md x) ∨ (l = [] ∧ (e = 2 ∨ e = 10 ∨ e = 11 ∨ e = 14 ∨ e = 15))) := by
  unfold walk_Windows.f
  rw [right_is, Option.bind_some]
  by_cases h : (0 ≤ md ∧ md < 16) ∧ (code.length : Int) ≤ 1024 ∧ (0 ≤ e0 ∧ e0 < (code.length : Int)) ∧ (0 ≤ e1 ∧ e1 < (code.length : Int))
  · rw [if_pos (decide_eq_true h)]
    by_cases h1 : v < 0
    · rw [if_pos h1]; exact ⟨_, _, rfl, .inr ⟨rfl, .inl rfl⟩⟩
    rw [if_neg h1]
    by_cases h2 : 2 ≤ v
    · rw [if_pos h2]; exact ⟨_, _, rfl, .inr ⟨rfl, .inl rfl⟩⟩
    rw [if_neg h2]
    obtain ⟨l, e, he, hh⟩ := win_ok (md := md) h.1.1 hb (by omega) 4096 (if v = 0 then e0 else e1) [] [] (fun x hx => by cases hx) (by simp)
    refine ⟨l, e, he, ?_⟩
    rcases hh with ⟨h3, h4⟩ | hh
    · exact .inl ⟨h3, by omega, h.1, h4⟩
    · exact .inr hh
  · rw [if_neg (by simpa using h)]; exact ⟨_, _, rfl, .inr ⟨rfl, .inl rfl⟩⟩
end Go.Proofs.Ytekbaconbemgpaa.PWe
