/- The walk of LayoutApart, out of the printed one and the plain law; how its arguments read. Helper text. -/
import Derived.Test.YtpafcbbnjkmhaaaLaLaw
import Derived.Test.YtpafcbbnjkmhaaaK5
namespace Go.Proofs.Ytpafcbbnjkmhaaa.PLa
open Go.RowKit Go.Proofs.Ytpafcbbnjkmhaaa.Kx Go.Proofs.YtpafcbbnjkmhaaaW.PrintWords Go.Proofs.YtpafcbbnjkmhaaaW.PrintLast Go.Proofs.YtpafcbbnjkmhaaaW.PrintMore
set_option linter.unusedVariables false
set_option linter.unusedSimpArgs false

def RPart (w : World) (cs : List Value) (s : S41) : Prop := cs = [.int .i64 s.f0, .int .i64 s.f1]
instance : Inhabited S41 := ⟨z41⟩
theorem list2 {α : Type} : ∀ (l : List α), l.length = 2 → ∃ a b, l = [a, b]
  | [a, b], _ => ⟨a, b, rfl⟩
theorem opn_part : Opn 41 RPart := by
  intro H enc w held fuel cs d h
  have hn : Try.prog.cellsOf 3 = 1 := by kernel_rfl
  have h2 : cs.length = 2 := by rw [(opn_struct Try.underlying41 h).1]; kernel_rfl
  obtain ⟨x0, x1, rfl⟩ := list2 cs h2
  obtain ⟨m0, y0, h0⟩ := opn_field Try.underlying41 h 0 3 0 1 (by kernel_rfl) hn
  obtain ⟨m1, y1, h1⟩ := opn_field Try.underlying41 h 1 3 1 1 (by kernel_rfl) hn
  obtain ⟨a0, e0, _⟩ := opn_int Try.underlying3 _ _ _ _ _ _ h0
  obtain ⟨a1, e1, _⟩ := opn_int Try.underlying3 _ _ _ _ _ _ h1
  simp at e0 e1
  exact ⟨⟨a0, a1⟩, by unfold RPart; rw [e0, e1]⟩
theorem opn_parts : Opn 23 (RSliceN 2 RPart) := opn_sliceN Try.underlying23 (by kernel_rfl) opn_part
theorem rdi_C {w : World} {A : Option Addr} {xs : List Int} (h : RdI w .i64 A xs) (hm : xs.length ≤ maxLen) : Kd.C (Kd.int .i64) w A xs.length xs := by
  refine ⟨rfl, by simpa [maxLen] using hm, fun hn => ?_⟩
  obtain ⟨ad, e, _⟩ := h 0 hn
  refine ⟨ad, e, fun j p hj => ?_⟩
  obtain ⟨hj', rfl⟩ := List.getElem?_eq_some_iff.1 hj
  obtain ⟨ad', e', hc⟩ := h j hj'
  cases e.symm.trans e'
  refine ⟨[.int .i64 xs[j]], rfl, rfl, fun i u hu => ?_⟩
  match i, hu with
  | 0, hu =>
    obtain rfl := Option.some.inj hu
    rw [show (Kd.int .i64).sz = 1 from rfl, Nat.mul_one, Nat.add_zero, hc, List.getD_eq_getElem?_getD, List.getElem?_eq_getElem hj']
    rfl
  | i + 1, hu => cases hu
theorem apart_row (A0 : Option Addr) (c0 : Nat) (l0 : List Int) (a1 : Int) (l2 : List S41) (A2 : Option Addr) (c2 : Nat) (w : World) (rd0 : RdI w .i64 A0 l0) (_ : wfs .i64 l0) (lc0 : l0.length ≤ c0) (lm0 : c0 ≤ maxLen) (_ : (Lit.int .i64 a1).wf = true)
    (rd2 : RSl 2 RPart w A2 l2) (lc2 : l2.length ≤ c2) (lm2 : c2 ≤ maxLen) (_ : A2 = none → c2 = 0) :
    Calls Try.prog 5 #[.slice A0 l0.length c0, .int .i64 a1, .slice A2 l2.length c2] w fun e w' => e = .returned (.bool true) ∧ Below w.heap.size w w' :=
  busbarlaw42_LayoutApart.calls 30000 A0 c0 l0 a1 A2 c2 l2 true w (rdi_C rd0 (Nat.le_trans lc0 lm0)) lc0 (rsl_reads (d := k41) rd2 (fun cs x hx => by rw [show cs = _ from hx]; exact k41_mk w x) (Nat.le_trans lc2 lm2)) lc2 (law_true l0 a1 l2)
end Go.Proofs.Ytpafcbbnjkmhaaa.PLa
