/- How the laws' arguments read. Helper text. -/
import Derived.Test.YtpafcbbnjkmhaaaPLax0
import Derived.Test.YtpafcbbnjkmhaaaK5
namespace Go.Proofs.Ytpafcbbnjkmhaaa.PLa
open Go.RowKit Go.Proofs.Ytpafcbbnjkmhaaa.Kx Go.Proofs.YtpafcbbnjkmhaaaW.PrintWords Go.Proofs.YtpafcbbnjkmhaaaW.PrintLast Go.Proofs.YtpafcbbnjkmhaaaW.PrintMore
set_option linter.unusedVariables false
set_option linter.unusedSimpArgs false

def RPart (w : World) (cs : List Value) (s : S41) : Prop := cs = [.int .i64 s.f0, .int .i64 s.f1]
instance : Inhabited S41 := ⟨z41⟩
theorem list2 {α : Type} : ∀ (l : List α), l.length = 2 → ∃ a b, l = [a, b]
  | [a, b], _ => ⟨a, b, rfl⟩
theorem opn_part : Opn 41 RPart := by
  intro H enc w held fuel cs d h
  have hn : Try.prog.cellsOf 3 = 1 := by kernel_rfl
  have h2 : cs.length = 2 := by rw [(opn_struct Try.underlying41 h).1]; kernel_rfl
  obtain ⟨x0, x1, rfl⟩ := list2 cs h2
  obtain ⟨m0, y0, h0⟩ := opn_field Try.underlying41 h 0 3 0 1 (by kernel_rfl) hn
  obtain ⟨m1, y1, h1⟩ := opn_field Try.underlying41 h 1 3 1 1 (by kernel_rfl) hn
  obtain ⟨a0, e0, _⟩ := opn_int Try.underlying3 _ _ _ _ _ _ h0
  obtain ⟨a1, e1, _⟩ := opn_int Try.underlying3 _ _ _ _ _ _ h1
  simp at e0 e1
  exact ⟨⟨a0, a1⟩, by unfold RPart; rw [e0, e1]⟩
theorem opn_parts : Opn 23 (RSliceN 2 RPart) := opn_sliceN Try.underlying23 (by kernel_rfl) opn_part
theorem rdi_C {w : World} {A : Option Addr} {xs : List Int} (h : RdI w .i64 A xs) (hm : xs.length ≤ maxLen) : Kd.C (Kd.int .i64) w A xs.length xs := by
  refine ⟨rfl, by simpa [maxLen] using hm, fun hn => ?_⟩
  obtain ⟨ad, e, _⟩ := h 0 hn
  refine ⟨ad, e, fun j p hj => ?_⟩
  obtain ⟨hj', rfl⟩ := List.getElem?_eq_some_iff.1 hj
  obtain ⟨ad', e', hc⟩ := h j hj'
  cases e.symm.trans e'
  refine ⟨[.int .i64 xs[j]], rfl, rfl, fun i u hu => ?_⟩
  match i, hu with
  | 0, hu =>
    obtain rfl := Option.some.inj hu
    rw [show (Kd.int .i64).sz = 1 from rfl, Nat.mul_one, Nat.add_zero, hc, List.getD_eq_getElem?_getD, List.getElem?_eq_getElem hj']
    rfl
  | i + 1, hu => cases hu
end Go.Proofs.Ytpafcbbnjkmhaaa.PLa
