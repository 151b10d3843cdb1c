/- Messages as an argument, opened. Helper text. -/
import Derived.Test.YtfmepbpipknblaaDgOpen
namespace Go.Proofs.Ytfmepbpipknblaa.Dg
open Go.RowKit Go.Proofs.Ytfmepbpipknblaa.Kx
set_option linter.unusedVariables false
set_option linter.unusedSimpArgs false

theorem list10 {α : Type} : ∀ (l : List α), l.length = 10 → ∃ a b c d e f g h i j, l = [a, b, c, d, e, f, g, h, i, j]
  | [a, b, c, d, e, f, g, h, i, j], _ => ⟨a, b, c, d, e, f, g, h, i, j, rfl⟩
theorem opn_msg : Opn 65 RMsg := by
  intro H enc w held fuel cs d h
  have hn : Try.prog.cellsOf 3 = 1 := by kernel_rfl
  have hb : Try.prog.cellsOf 4 = 1 := by kernel_rfl
  have hs : Try.prog.cellsOf 22 = 1 := by kernel_rfl
  have hn4 : Try.prog.cellsOf 56 = 4 := by kernel_rfl
  have h10 : cs.length = 10 := by rw [(opn_struct Try.underlying65 h).1]; kernel_rfl
  obtain ⟨x0, x1, x2, x3, x4, x5, x6, x7, x8, x9, rfl⟩ := list10 cs h10
  obtain ⟨m0, y0, h0⟩ := opn_field Try.underlying65 h 0 3 0 1 (by kernel_rfl) hn
  obtain ⟨m1, y1, h1⟩ := opn_field Try.underlying65 h 1 3 1 1 (by kernel_rfl) hn
  obtain ⟨m2, y2, h2⟩ := opn_field Try.underlying65 h 2 3 2 1 (by kernel_rfl) hn
  obtain ⟨m3, y3, h3⟩ := opn_field Try.underlying65 h 3 22 3 1 (by kernel_rfl) hs
  obtain ⟨m4, y4, h4⟩ := opn_field Try.underlying65 h 4 4 4 1 (by kernel_rfl) hb
  obtain ⟨m5, y5, h5⟩ := opn_field Try.underlying65 h 5 4 5 1 (by kernel_rfl) hb
  obtain ⟨m6, y6, h6⟩ := opn_field Try.underlying65 h 6 56 6 4 (by kernel_rfl) hn4
  obtain ⟨a0, e0, _⟩ := opn_int Try.underlying3 _ _ _ _ _ _ h0
  obtain ⟨a1, e1, _⟩ := opn_int Try.underlying3 _ _ _ _ _ _ h1
  obtain ⟨a2, e2, _⟩ := opn_int Try.underlying3 _ _ _ _ _ _ h2
  obtain ⟨ws, A, c, e3, _⟩ := opn_slice (n := 1) (R := RInt .u8) Try.underlying22 (by kernel_rfl) (opn_int Try.underlying5) _ _ _ _ _ _ h3
  obtain ⟨a4, e4⟩ := opn_bool Try.underlying4 _ _ _ _ _ _ h4
  obtain ⟨a5, e5⟩ := opn_bool Try.underlying4 _ _ _ _ _ _ h5
  obtain ⟨b0, b1, b2, b3, e6, _⟩ := open_arr4 h6
  refine ⟨⟨a0, a1, a2, A, ws.length, c, a4, a5, b0, b1, b2, b3⟩, ?_⟩
  unfold RBool at e4 e5
  simp at e0 e1 e2 e3 e4 e5 e6
  unfold RMsg Msg.cells
  rw [e0, e1, e2, e3, e4, e5, e6.1, e6.2.1, e6.2.2.1, e6.2.2.2]
theorem opn_msgs : Opn 63 (RSliceN 10 RMsg) := opn_sliceN Try.underlying63 (by kernel_rfl) opn_msg
end Go.Proofs.Ytfmepbpipknblaa.Dg
