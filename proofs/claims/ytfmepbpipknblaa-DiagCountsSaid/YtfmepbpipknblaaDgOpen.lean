/- The count as an argument, opened. Helper text. -/
import Derived.Test.YtfmepbpipknblaaDgOf
namespace Go.Proofs.Ytfmepbpipknblaa.Dg
open Go.RowKit Go.Proofs.Ytfmepbpipknblaa.Kx
set_option linter.unusedVariables false
set_option linter.unusedSimpArgs false

theorem list4 {α : Type} : ∀ (l : List α), l.length = 4 → ∃ x y z t, l = [x, y, z, t]
  | [x, y, z, t], _ => ⟨x, y, z, t, rfl⟩
theorem list5 {α : Type} : ∀ (l : List α), l.length = 5 → ∃ x y z t u, l = [x, y, z, t, u]
  | [x, y, z, t, u], _ => ⟨x, y, z, t, u, rfl⟩
def wf4 (a : Int) : Prop := (Lit.int .i64 a).wf = true
/-- An array of four whole numbers. -/
theorem open_arr4 {H : Type} {enc : TypeId × Value → H} {w : World} {held : Bool} {fuel : Nat} {cs : List Value} {d : DataW H × List MemPlace}
    (h : DataW.trod enc Try.prog w 0 (fun _ => true) held fuel 56 cs = some d) : ∃ a b c e : Int, cs = [.int .i64 a, .int .i64 b, .int .i64 c, .int .i64 e] ∧ wf4 a ∧ wf4 b ∧ wf4 c ∧ wf4 e := by
  have hn : Try.prog.cellsOf 3 = 1 := by kernel_rfl
  have hl4 : cs.length = 4 := by rw [(opn_array Try.underlying56 h).1]; kernel_rfl
  obtain ⟨x, y, z, t, rfl⟩ := list4 cs hl4
  · clear hl4
    obtain ⟨m0, y0, h0⟩ := opn_item Try.underlying56 h 1 hn 0 (by omega)
    obtain ⟨m1, y1, h1⟩ := opn_item Try.underlying56 h 1 hn 1 (by omega)
    obtain ⟨m2, y2, h2⟩ := opn_item Try.underlying56 h 1 hn 2 (by omega)
    obtain ⟨m3, y3, h3⟩ := opn_item Try.underlying56 h 1 hn 3 (by omega)
    obtain ⟨a, e0, w0⟩ := opn_int Try.underlying3 _ _ _ _ _ _ h0
    obtain ⟨b, e1, w1⟩ := opn_int Try.underlying3 _ _ _ _ _ _ h1
    obtain ⟨c, e2, w2⟩ := opn_int Try.underlying3 _ _ _ _ _ _ h2
    obtain ⟨e, e3, w3⟩ := opn_int Try.underlying3 _ _ _ _ _ _ h3
    refine ⟨a, b, c, e, ?_, w0, w1, w2, w3⟩
    simp at e0 e1 e2 e3
    rw [e0, e1, e2, e3]
theorem open_count {H : Type} {enc : TypeId × Value → H} {w : World} {held : Bool} {fuel : Nat} {cs : List Value} {d : DataW H × List MemPlace}
    (h : DataW.trod enc Try.prog w 0 (fun _ => true) held fuel 58 cs = some d) : ∃ n a b c e : Int, cs = [.int .i64 n, .int .i64 a, .int .i64 b, .int .i64 c, .int .i64 e] ∧ wf4 n ∧ wf4 a ∧ wf4 b ∧ wf4 c ∧ wf4 e := by
  have hn : Try.prog.cellsOf 3 = 1 := by kernel_rfl
  have hn4 : Try.prog.cellsOf 56 = 4 := by kernel_rfl
  have hl5 : cs.length = 5 := by rw [(opn_struct Try.underlying58 h).1]; kernel_rfl
  obtain ⟨x, y, z, t, u, rfl⟩ := list5 cs hl5
  · clear hl5
    obtain ⟨m0, y0, h0⟩ := opn_field Try.underlying58 h 0 3 0 1 (by kernel_rfl) hn
    obtain ⟨m1, y1, h1⟩ := opn_field Try.underlying58 h 1 56 1 4 (by kernel_rfl) hn4
    obtain ⟨a, e0, w0⟩ := opn_int Try.underlying3 _ _ _ _ _ _ h0
    obtain ⟨a1, b1, c1, e1, he, v1, v2, v3, v4⟩ := open_arr4 h1
    refine ⟨a, a1, b1, c1, e1, ?_, w0, v1, v2, v3, v4⟩
    simp at e0 he
    rw [e0, he.1, he.2.1, he.2.2.1, he.2.2.2]
def four (a b c e : Int) : Nat → Int
  | 0 => a
  | 1 => b
  | 2 => c
  | _ => e
theorem four_le (a b c e : Int) (ha : wf4 a) (hb : wf4 b) (hc : wf4 c) (he : wf4 e) (k : Nat) : four a b c e k ≤ 9223372036854775807 := by
  have h1 := wf_i64 ha
  have h2 := wf_i64 hb
  have h3 := wf_i64 hc
  have h4 := wf_i64 he
  unfold four
  split <;> omega
end Go.Proofs.Ytfmepbpipknblaa.Dg
