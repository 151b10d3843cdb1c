/- The iterator (wave.Wave).Ticks: its contract. Helper text. -/
import Derived.RangeFuncNested
import Derived.RangeFuncBound
import Derived.RangeFuncCalls
import Derived.RangeFuncLeaves
import Derived.Shelf.Abstract
import Derived.Shelf.RegionOpen
import Derived.WalkKit
import Derived.OwnWalkIn
import Derived.TacticsInMore
import Derived.LoopNIn
import Derived.LoopIn
import Derived.Test.YtedjjodnceinlaaDoorWvPln
namespace Go.Proofs.YtedjjodnceinlaaDoor.PWv
open Go.RowKit Go.Shelf Go.Proofs.YtedjjodnceinlaaDoor.Kx Go.Proofs.YtedjjodnceinlaaDoor.PWe Go.Proofs.YtedjjodnceinlaaDoorW.PrintWords Go.Proofs.YtedjjodnceinlaaDoorW.PrintLast Go.Proofs.YtedjjodnceinlaaDoorW.PrintMore
set_option linter.unusedVariables false
set_option linter.unusedSimpArgs false
/-- The ticks of a run; of runs. -/
def tkR (L a : Int) (n : Nat) : List (Int × Int) := (List.range n).map fun (j : Nat) => (a + (j : Int), L)
def tks : List S46 → Int → List (Int × Int)
  | [], _ => []
  | r :: q, a => tkR r.f0 a r.f1.toNat ++ tks q (a + r.f1)
theorem tkR_succ (L a : Int) (n : Nat) : tkR L a (n + 1) = tkR L a n ++ [(a + (n : Int), L)] := by simp [tkR, List.range_succ]
theorem tkR_len (L a : Int) (n : Nat) : (tkR L a n).length = n := by simp [tkR]
theorem tkR_pre (L a : Int) {n m : Nat} (h : n ≤ m) : tkR L a n <+: tkR L a m := by
  obtain ⟨d, rfl⟩ : ∃ d, m = n + d := ⟨m - n, by omega⟩
  induction d with
  | zero => exact List.prefix_refl _
  | succ d ih => exact (ih (by omega)).trans (by rw [← Nat.add_assoc, tkR_succ]; exact List.prefix_append _ _)
theorem tks_app : ∀ (p q : List S46) (a : Int), tks (p ++ q) a = tks p a ++ tks q (a + sumT p)
  | [], q, a => by simp [tks, sumT]
  | r :: p, q, a => by
    rw [List.cons_append, tks, tks, tks_app p q, sumT_cons, List.append_assoc, Int.add_assoc]
theorem tks_take {cl : List S46} {i : Nat} (hi : i < cl.length) : tks cl 0 = tks (cl.take i) 0 ++ (tkR cl[i].f0 (sumT (cl.take i)) cl[i].f1.toNat ++ tks (cl.drop (i + 1)) (sumT (cl.take i) + cl[i].f1)) := by
  conv => lhs; rw [← List.take_append_drop i cl]
  rw [tks_app, List.drop_eq_getElem_cons hi, tks, Int.zero_add]
theorem tks_next {cl : List S46} {i : Nat} (hi : i < cl.length) : tks (cl.take (i + 1)) 0 = tks (cl.take i) 0 ++ tkR cl[i].f0 (sumT (cl.take i)) cl[i].f1.toNat := by
  rw [List.take_succ_eq_append_getElem hi, tks_app, Int.zero_add]
  simp [tks]
theorem tks_pre {cl : List S46} {i j : Nat} (hi : i < cl.length) (hj : j ≤ cl[i].f1.toNat) : tks (cl.take i) 0 ++ tkR cl[i].f0 (sumT (cl.take i)) j <+: tks cl 0 := by
  rw [tks_take hi]
  exact List.prefix_append_right_inj _ |>.2 ((tkR_pre _ _ hj).trans (List.prefix_append _ _))
/-- What a round keeps: all below, and every row of runs. -/
structure KpB (n0 : Nat) (W W' : World) : Prop where
  below : Below n0 W W'
  runs : ∀ (k : Nat) (cs : Array Value) (z : Nat × Nat), W.heap[k]? = some (.cells cs 46 z) → W'.heap[k]? = some (.cells cs 46 z)
theorem kpB_t {n0 : Nat} {A B C : World} (h : KpB n0 A B) (k : KpB n0 B C) : KpB n0 A C := ⟨h.below.trans k.below, fun j cs z hj => k.runs j cs z (h.runs j cs z hj)⟩
theorem kpB_of {n0 : Nat} {A B : World} (h : Below A.heap.size A B) (hn : n0 ≤ A.heap.size) : KpB n0 A B :=
  ⟨h.mono hn, fun j cs z hj => (h.block j (Array.getElem?_eq_some_iff.1 hj).1).trans hj⟩
theorem kpB_b {n0 : Nat} {w : World} (hn : n0 ≤ w.heap.size) (W : World) (l : Nat) (o o' : Obj) (hl : w.heap.size ≤ l) (h : W.heap[l]? = some o) (hc : o.isCells = false) (hw : o.isWalk = false) : KpB n0 W (W.putObj l o') :=
  ⟨belowK_b hn W l o o' hl h hc hw, fun k cs z hk => by
    have hg := grownBy_putObj' W l o'
    refine (hg.block k (Array.getElem?_eq_some_iff.1 hk).1 (fun e => ?_)).trans hk
    cases e
    rw [h] at hk
    cases hk
    cases hc⟩
theorem grown_of {A B : World} (h : Below A.heap.size A B) : A.grownBy B none := ⟨h.os, h.tape, h.output, h.size, fun k hk _ => h.block k hk⟩
theorem rows_of {W : World} {base : Nat} {ok : Nat → Prop} {v : Value} {cl : List S46} (h : Kd.R k46 46 W base ok v cl) :
    (v = .slice none 0 0 ∧ cl = []) ∨ ∃ g cap cur, v = .slice (some ⟨g, 0, none⟩) cl.length cap ∧ base ≤ g ∧ W.heap[g]? = some (.cells cur 46 (0, 0)) ∧ ∀ j (hj : j < cl.length), cur[2 * j]? = some (.int .u8 cl[j].f0) ∧ cur[2 * j + 1]? = some (.int .i64 cl[j].f1) := by
  obtain ⟨_, inner, ⟨h1, h2⟩, h3, h4⟩ := h
  rcases h2 with ⟨rfl, hn⟩ | ⟨g, cap, cur, rfl, hb, hg, hc, hm, hs, ht⟩
  · exact .inl ⟨rfl, List.eq_nil_of_length_eq_zero hn⟩
  · refine .inr ⟨g, cap, cur, rfl, hb, hg, fun j hj => ?_⟩
    have hq := k46_openM (h4 j cl[j] (List.getElem?_eq_getElem hj))
    have e0 : inner[2 * j]? = some (.int .u8 cl[j].f0) := by
      have : ((inner.drop (j * 2)).take 2)[0]? = some (.int .u8 cl[j].f0) := by
        have hq' : (inner.drop (j * 2)).take 2 = [.int .u8 cl[j].f0, .int .i64 cl[j].f1] := hq
        rw [hq']; rfl
      simpa [Nat.mul_comm] using this
    have e1 : inner[2 * j + 1]? = some (.int .i64 cl[j].f1) := by
      have : ((inner.drop (j * 2)).take 2)[1]? = some (.int .i64 cl[j].f1) := by
        have hq' : (inner.drop (j * 2)).take 2 = [.int .u8 cl[j].f0, .int .i64 cl[j].f1] := hq
        rw [hq']; rfl
      simpa [Nat.mul_comm] using this
    have hl : cl.length * 2 ≤ cap * 2 := Nat.mul_le_mul_right 2 hc
    have ht' : inner = cur.toList.take (cl.length * 2) := ht.symm
    rw [ht', List.getElem?_take_of_lt (by omega)] at e0 e1
    exact ⟨by simpa using e0, by simpa using e1⟩
theorem rows_of2 {W : World} {base : Nat} {ok : Nat → Prop} {v : Value} {cl : List S46} (h : Kd.R k46 46 W base ok v cl) :
    ∃ A cap, v = .slice A cl.length cap ∧ (0 < cl.length → ∃ g cur, A = some ⟨g, 0, none⟩ ∧ base ≤ g ∧ W.heap[g]? = some (.cells cur 46 (0, 0)) ∧ ∀ j (hj : j < cl.length), cur[2 * j]? = some (.int .u8 cl[j].f0) ∧ cur[2 * j + 1]? = some (.int .i64 cl[j].f1)) := by
  rcases rows_of h with ⟨rfl, rfl⟩ | ⟨g, cap, cur, rfl, hb, hg, hc⟩
  · exact ⟨none, 0, rfl, fun h => absurd h (by decide)⟩
  · exact ⟨_, _, rfl, fun _ => ⟨g, cur, rfl, hb, hg, hc⟩⟩
end Go.Proofs.YtedjjodnceinlaaDoor.PWv
