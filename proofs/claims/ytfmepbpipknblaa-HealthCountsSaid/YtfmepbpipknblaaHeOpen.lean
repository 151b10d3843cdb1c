/- How an argument of events, and one of seven numbers, is read. Helper text. -/
import Derived.Test.YtfmepbpipknblaaHeLaw
import Derived.Test.YtfmepbpipknblaaK4
namespace Go.Proofs.Ytfmepbpipknblaa.He
open Go.RowKit Go.Proofs.Ytfmepbpipknblaa.Kx
set_option linter.unusedVariables false
set_option linter.unusedSimpArgs false

theorem list8 {α : Type} : ∀ (l : List α), l.length = 8 → ∃ a b c d e f g h, l = [a, b, c, d, e, f, g, h]
  | [a, b, c, d, e, f, g, h], _ => ⟨a, b, c, d, e, f, g, h, rfl⟩
theorem list7 {α : Type} : ∀ (l : List α), l.length = 7 → ∃ a b c d e f g, l = [a, b, c, d, e, f, g]
  | [a, b, c, d, e, f, g], _ => ⟨a, b, c, d, e, f, g, rfl⟩
theorem opn_ev : Opn 48 REv := by
  intro H enc w held fuel cs d h
  have hn : Try.prog.cellsOf 3 = 1 := by kernel_rfl
  have hs : Try.prog.cellsOf 22 = 1 := by kernel_rfl
  have h8 : cs.length = 8 := by rw [(opn_struct Try.underlying48 h).1]; kernel_rfl
  obtain ⟨x0, x1, x2, x3, x4, x5, x6, x7, rfl⟩ := list8 cs h8
  obtain ⟨m0, y0, h0⟩ := opn_field Try.underlying48 h 0 3 0 1 (by kernel_rfl) hn
  obtain ⟨m1, y1, h1⟩ := opn_field Try.underlying48 h 1 3 1 1 (by kernel_rfl) hn
  obtain ⟨m2, y2, h2⟩ := opn_field Try.underlying48 h 2 3 2 1 (by kernel_rfl) hn
  obtain ⟨m3, y3, h3⟩ := opn_field Try.underlying48 h 3 3 3 1 (by kernel_rfl) hn
  obtain ⟨m4, y4, h4⟩ := opn_field Try.underlying48 h 4 3 4 1 (by kernel_rfl) hn
  obtain ⟨m5, y5, h5⟩ := opn_field Try.underlying48 h 5 3 5 1 (by kernel_rfl) hn
  obtain ⟨m6, y6, h6⟩ := opn_field Try.underlying48 h 6 3 6 1 (by kernel_rfl) hn
  obtain ⟨m7, y7, h7⟩ := opn_field Try.underlying48 h 7 22 7 1 (by kernel_rfl) hs
  obtain ⟨a0, e0, w0⟩ := opn_int Try.underlying3 _ _ _ _ _ _ h0
  obtain ⟨a1, e1, w1⟩ := opn_int Try.underlying3 _ _ _ _ _ _ h1
  obtain ⟨a2, e2, w2⟩ := opn_int Try.underlying3 _ _ _ _ _ _ h2
  obtain ⟨a3, e3, w3⟩ := opn_int Try.underlying3 _ _ _ _ _ _ h3
  obtain ⟨a4, e4, w4⟩ := opn_int Try.underlying3 _ _ _ _ _ _ h4
  obtain ⟨a5, e5, w5⟩ := opn_int Try.underlying3 _ _ _ _ _ _ h5
  obtain ⟨a6, e6, w6⟩ := opn_int Try.underlying3 _ _ _ _ _ _ h6
  obtain ⟨ws, A, c, e7, _⟩ := opn_slice (n := 1) (R := RInt .u8) Try.underlying22 (by kernel_rfl) (opn_int Try.underlying5) _ _ _ _ _ _ h7
  refine ⟨⟨a0, a1, a2, a3, a4, a5, a6, A, ws.length, c⟩, ?_⟩
  simp at e0 e1 e2 e3 e4 e5 e6 e7
  unfold REv Ev.cells
  rw [e0, e1, e2, e3, e4, e5, e6, e7]
theorem opn_evs : Opn 42 (RSliceN 8 REv) := opn_sliceN Try.underlying42 (by kernel_rfl) opn_ev
def RHe (w : World) (cs : List Value) (h : Nat → Int) : Prop := cs = (H7 h).toList ∧ ∀ k, (Lit.int .i64 (h k)).wf = true
def fn7 (a b c d e f g : Int) : Nat → Int
  | 0 => a
  | 1 => b
  | 2 => c
  | 3 => d
  | 4 => e
  | 5 => f
  | 6 => g
  | _ => 0
theorem opn_he : Opn 45 RHe := by
  intro H enc w held fuel cs d h
  have hn : Try.prog.cellsOf 3 = 1 := by kernel_rfl
  have h7 : cs.length = 7 := by rw [(opn_struct Try.underlying45 h).1]; kernel_rfl
  obtain ⟨x0, x1, x2, x3, x4, x5, x6, rfl⟩ := list7 cs h7
  obtain ⟨m0, y0, h0⟩ := opn_field Try.underlying45 h 0 3 0 1 (by kernel_rfl) hn
  obtain ⟨m1, y1, h1⟩ := opn_field Try.underlying45 h 1 3 1 1 (by kernel_rfl) hn
  obtain ⟨m2, y2, h2⟩ := opn_field Try.underlying45 h 2 3 2 1 (by kernel_rfl) hn
  obtain ⟨m3, y3, h3⟩ := opn_field Try.underlying45 h 3 3 3 1 (by kernel_rfl) hn
  obtain ⟨m4, y4, h4⟩ := opn_field Try.underlying45 h 4 3 4 1 (by kernel_rfl) hn
  obtain ⟨m5, y5, h5⟩ := opn_field Try.underlying45 h 5 3 5 1 (by kernel_rfl) hn
  obtain ⟨m6, y6, h6⟩ := opn_field Try.underlying45 h 6 3 6 1 (by kernel_rfl) hn
  obtain ⟨a0, e0, w0⟩ := opn_int Try.underlying3 _ _ _ _ _ _ h0
  obtain ⟨a1, e1, w1⟩ := opn_int Try.underlying3 _ _ _ _ _ _ h1
  obtain ⟨a2, e2, w2⟩ := opn_int Try.underlying3 _ _ _ _ _ _ h2
  obtain ⟨a3, e3, w3⟩ := opn_int Try.underlying3 _ _ _ _ _ _ h3
  obtain ⟨a4, e4, w4⟩ := opn_int Try.underlying3 _ _ _ _ _ _ h4
  obtain ⟨a5, e5, w5⟩ := opn_int Try.underlying3 _ _ _ _ _ _ h5
  obtain ⟨a6, e6, w6⟩ := opn_int Try.underlying3 _ _ _ _ _ _ h6
  simp at e0 e1 e2 e3 e4 e5 e6
  refine ⟨fn7 a0 a1 a2 a3 a4 a5 a6, by rw [e0, e1, e2, e3, e4, e5, e6]; rfl, fun k => ?_⟩
  unfold fn7
  split
  · exact w0
  · exact w1
  · exact w2
  · exact w3
  · exact w4
  · exact w5
  · exact w6
  · decide
theorem counts_row (l : List Ev) (A : Option Addr) (c : Nat) (B : Option Addr) (cm : Nat) (ms : List Int) (o : Nat → Int) (w : World) (hA : RSl 8 REv w A l) (_ : l.length ≤ c) (_ : c ≤ maxLen) (_ : A = none → c = 0) (hB : RdI w .i64 B ms) (hms : wfs .i64 ms) (_ : ms.length ≤ cm) (_ : cm ≤ maxLen) (ho : ∀ k, (Lit.int .i64 (o k)).wf = true) :
    Calls Try.prog 5 #[.slice A l.length c, .slice B ms.length cm, .agg (H7 o)] w fun e w' => e = .returned (.bool true) ∧ Below w.heap.size w w' := counts_any l A c ms B cm o w hA hB hms ho
end Go.Proofs.Ytfmepbpipknblaa.He
