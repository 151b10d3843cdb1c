/- How a course, as an argument, is read. Helper text. -/
import Derived.Test.YtfmepbpipknblaaK5
import Derived.Test.YtfmepbpipknblaaPBux0
namespace Go.Proofs.Ytfmepbpipknblaa.PBu
open Go.RowKit Go.Proofs.Ytfmepbpipknblaa.Kx Go.Proofs.YtfmepbpipknblaaW.PrintWords Go.Proofs.YtfmepbpipknblaaW.PrintLast Go.Proofs.YtfmepbpipknblaaW.PrintMore
set_option linter.unusedVariables false
set_option linter.unusedSimpArgs false

def RSlip (w : World) (cs : List Value) (s : S40) : Prop := cs = [.int .i64 s.f0, .bool s.f1, .int .i64 s.f2, .int .i64 s.f3] ∧ (Lit.int .i64 s.f0).wf = true
instance : Inhabited S40 := ⟨z40⟩
theorem opn_slip : Opn 40 RSlip := by
  intro H enc w held fuel cs d h
  have hn : Try.prog.cellsOf 3 = 1 := by kernel_rfl
  have hb : Try.prog.cellsOf 4 = 1 := by kernel_rfl
  have h4 : cs.length = 4 := by rw [(opn_struct Try.underlying40 h).1]; kernel_rfl
  obtain ⟨x0, x1, x2, x3, rfl⟩ := list4 cs h4
  obtain ⟨m0, y0, h0⟩ := opn_field Try.underlying40 h 0 3 0 1 (by kernel_rfl) hn
  obtain ⟨m1, y1, h1⟩ := opn_field Try.underlying40 h 1 4 1 1 (by kernel_rfl) hb
  obtain ⟨m2, y2, h2⟩ := opn_field Try.underlying40 h 2 3 2 1 (by kernel_rfl) hn
  obtain ⟨m3, y3, h3⟩ := opn_field Try.underlying40 h 3 3 3 1 (by kernel_rfl) hn
  obtain ⟨a0, e0, w0⟩ := opn_int Try.underlying3 _ _ _ _ _ _ h0
  obtain ⟨a1, e1⟩ := opn_bool Try.underlying4 _ _ _ _ _ _ h1
  obtain ⟨a2, e2, w2⟩ := opn_int Try.underlying3 _ _ _ _ _ _ h2
  obtain ⟨a3, e3, w3⟩ := opn_int Try.underlying3 _ _ _ _ _ _ h3
  unfold RBool at e1
  simp at e0 e1 e2 e3
  exact ⟨⟨a0, a1, a2, a3⟩, by rw [e0, e1, e2, e3], w0⟩
/-- A course, as its cells say. -/
structure Crs where
  f0 : Int
  f1 : Int
  f2 : Bool
  f3 : Int
  f4 : Int
  A5 : Option Addr
  l5 : List Int
  c5 : Nat
  A6 : Option Addr
  l6 : List S40
  c6 : Nat
def Crs.arr (x : Crs) : Array Value := #[.int .i64 x.f0, .int .i64 x.f1, .bool x.f2, .int .i64 x.f3, .int .i64 x.f4, .slice x.A5 x.l5.length x.c5, .slice x.A6 x.l6.length x.c6]
def RCrs (w : World) (cs : List Value) (x : Crs) : Prop := cs = x.arr.toList ∧ Kd.C (Kd.int .u8) w x.A5 x.l5.length x.l5 ∧ x.l5.length ≤ x.c5 ∧ Kd.C k40 w x.A6 x.l6.length x.l6 ∧ x.l6.length ≤ x.c6 ∧ ∀ s ∈ x.l6, (Lit.int .i64 s.f0).wf = true
theorem opn_crs : Opn 27 RCrs := by
  intro H enc w held fuel cs d h
  have hn : Try.prog.cellsOf 3 = 1 := by kernel_rfl
  have hb : Try.prog.cellsOf 4 = 1 := by kernel_rfl
  have hs : Try.prog.cellsOf 22 = 1 := by kernel_rfl
  have hsl : Try.prog.cellsOf 25 = 1 := by kernel_rfl
  have hf : Try.prog.cellsOf 24 = 6 := by kernel_rfl
  have h7 : cs.length = 7 := by rw [(opn_struct Try.underlying27 h).1]; kernel_rfl
  obtain ⟨x0, x1, x2, x3, x4, x5, x6, rfl⟩ := list7' cs h7
  obtain ⟨mF, yF, hF⟩ := opn_field Try.underlying27 h 0 24 0 6 (by kernel_rfl) hf
  obtain ⟨m6, y6, h6⟩ := opn_field Try.underlying27 h 1 25 6 1 (by kernel_rfl) hsl
  simp only [List.drop_zero, List.take_succ_cons, List.take_zero] at hF
  obtain ⟨m0, y0, h0⟩ := opn_field Try.underlying24 hF 0 3 0 1 (by kernel_rfl) hn
  obtain ⟨m1, y1, h1⟩ := opn_field Try.underlying24 hF 1 3 1 1 (by kernel_rfl) hn
  obtain ⟨m2, y2, h2⟩ := opn_field Try.underlying24 hF 2 4 2 1 (by kernel_rfl) hb
  obtain ⟨m3, y3, h3⟩ := opn_field Try.underlying24 hF 3 3 3 1 (by kernel_rfl) hn
  obtain ⟨m4, y4, h4⟩ := opn_field Try.underlying24 hF 4 3 4 1 (by kernel_rfl) hn
  obtain ⟨m5, y5, h5⟩ := opn_field Try.underlying24 hF 5 22 5 1 (by kernel_rfl) hs
  obtain ⟨a0, e0, _⟩ := opn_int Try.underlying3 _ _ _ _ _ _ h0
  obtain ⟨a1, e1, _⟩ := opn_int Try.underlying3 _ _ _ _ _ _ h1
  obtain ⟨a2, e2⟩ := opn_bool Try.underlying4 _ _ _ _ _ _ h2
  obtain ⟨a3, e3, _⟩ := opn_int Try.underlying3 _ _ _ _ _ _ h3
  obtain ⟨a4, e4, _⟩ := opn_int Try.underlying3 _ _ _ _ _ _ h4
  obtain ⟨l5, A5, c5, e5, hl5, hm5, hr5⟩ := opn_slice (n := 1) (R := RInt .u8) Try.underlying22 (by kernel_rfl) (opn_int Try.underlying5) _ _ _ _ _ _ h5
  obtain ⟨l6, A6, c6, e6, hl6, hm6, hr6⟩ := opn_slice (n := 4) (R := RSlip) Try.underlying25 (by kernel_rfl) opn_slip _ _ _ _ _ _ h6
  unfold RBool at e2
  simp at e0 e1 e2 e3 e4 e5 e6
  refine ⟨⟨a0, a1, a2, a3, a4, A5, l5, c5, A6, l6, c6⟩, by rw [e0, e1, e2, e3, e4, e5, e6]; rfl, rsl_reads (d := Kd.int .u8) hr5 (fun cs x hx => hx.1) (Nat.le_trans hl5 hm5), hl5, rsl_reads (d := k40) hr6 (fun cs x hx => by rw [hx.1]; exact k40_mk w x) (Nat.le_trans hl6 hm6), hl6, fun s hs => ?_⟩
  obtain ⟨i, hi, rfl⟩ := List.getElem_of_mem hs
  obtain ⟨ad, cs, _, _, _, hx⟩ := hr6 i hi
  exact hx.2
end Go.Proofs.Ytfmepbpipknblaa.PBu
