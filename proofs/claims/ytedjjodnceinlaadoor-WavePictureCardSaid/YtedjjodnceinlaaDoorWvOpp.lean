/- How the arguments of the Wave laws read. Helper text. -/
import Derived.Test.YtedjjodnceinlaaDoorWvPw
namespace Go.Proofs.YtedjjodnceinlaaDoor.PWv
open Go.RowKit Go.Proofs.YtedjjodnceinlaaDoor.Kx Go.Proofs.YtedjjodnceinlaaDoorW.PrintWords Go.Proofs.YtedjjodnceinlaaDoorW.PrintLast Go.Proofs.YtedjjodnceinlaaDoorW.PrintMore
set_option linter.unusedVariables false
set_option linter.unusedSimpArgs false
def RRun (w : World) (cs : List Value) (s : S46) : Prop := cs = [.int .u8 s.f0, .int .i64 s.f1]
instance : Inhabited S46 := ⟨z46⟩
theorem list2 {α : Type} : ∀ (l : List α), l.length = 2 → ∃ a b, l = [a, b]
  | [a, b], _ => ⟨a, b, rfl⟩
theorem opn_run : Opn 46 RRun := by
  intro H enc w held fuel cs d h
  have h2 : cs.length = 2 := by rw [(opn_struct Tryd.underlying46 h).1]; kernel_rfl
  obtain ⟨x0, x1, rfl⟩ := list2 cs h2
  obtain ⟨m0, y0, h0⟩ := opn_field Tryd.underlying46 h 0 36 0 1 (by kernel_rfl) (by kernel_rfl)
  obtain ⟨m1, y1, h1⟩ := opn_field Tryd.underlying46 h 1 3 1 1 (by kernel_rfl) (by kernel_rfl)
  obtain ⟨a0, e0, _⟩ := opn_int Tryd.underlying36 _ _ _ _ _ _ h0
  obtain ⟨a1, e1, _⟩ := opn_int Tryd.underlying3 _ _ _ _ _ _ h1
  simp at e0 e1
  exact ⟨⟨a0, a1⟩, by unfold RRun; rw [e0, e1]⟩
theorem opn_wave : Opn 23 (RSliceN 2 RRun) := opn_sliceN Tryd.underlying23 (by kernel_rfl) opn_run
theorem wpic_row (l0 : List S46) (A0 : Option Addr) (c0 : Nat) (a1 m : Int) (w : World) (rd0 : RSl 2 RRun w A0 l0) (lc0 : l0.length ≤ c0) (lm0 : c0 ≤ maxLen) (_ : A0 = none → c0 = 0) (_ : (Lit.int .i64 a1).wf = true) (hm : w.cell? ⟨0, 0, none⟩ = some (.int .i64 m)) :
    Calls Tryd.prog 5 #[.slice A0 l0.length c0, .int .i64 a1] w fun e w' => e = .returned (.bool true) ∧ Below w.heap.size w w' :=
  wpic_calls A0 c0 l0 a1 m w (rsl_reads (d := k46) rd0 (fun cs x hx => by rw [show cs = _ from hx]; exact k46_mk w x) (Nat.le_trans lc0 lm0)) lc0 hm
end Go.Proofs.YtedjjodnceinlaaDoor.PWv
