/- How an image, as an argument, is read; the walk of WalkEnds. Helper text. -/
import Derived.Test.YtekbaconbemgpaaK5
import Derived.Test.YtekbaconbemgpaaWkEnds
namespace Go.Proofs.Ytekbaconbemgpaa.PWe
open Go.RowKit Go.Proofs.Ytekbaconbemgpaa.Kx Go.Proofs.YtekbaconbemgpaaW.PrintWords Go.Proofs.YtekbaconbemgpaaW.PrintLast Go.Proofs.YtekbaconbemgpaaW.PrintMore
set_option linter.unusedVariables false
set_option linter.unusedSimpArgs false
/-- An image, as its cells say. -/
structure Img where
  f0 : Int
  f1 : Int
  f2 : Int
  A3 : Option Addr
  l3 : List Int
  c3 : Nat
def Img.arr (x : Img) : Array Value := #[.int .i64 x.f0, .int .i64 x.f1, .int .i64 x.f2, .slice x.A3 x.l3.length x.c3]
def RImg (w : World) (cs : List Value) (x : Img) : Prop := cs = x.arr.toList ∧ Kd.C (Kd.int .u8) w x.A3 x.l3.length x.l3 ∧ x.l3.length ≤ x.c3 ∧ Bytes x.l3
theorem opn_array1 {t e : TypeId} {n : Nat} (ht : Try.prog.underlying t = some (.array n e)) {H : Type} {enc : TypeId × Value → H} {w : World} {held : Bool} {fuel : Nat} {cs : List Value} {d : DataW H × List MemPlace}
    (h : DataW.trod enc Try.prog w 0 (fun _ => true) held fuel t cs = some d) (k : Nat) (hk : Try.prog.cellsOf e = k) (i : Nat) (hi : i < n) : ∃ m y, DataW.trod enc Try.prog w 0 (fun _ => true) held m e ((cs.drop (i * k)).take k) = some y := by
  subst hk
  exact (opn_array ht h).2 i hi
theorem opn_img : Opn 25 RImg := by
  intro H enc w held fuel cs d h
  have hn : Try.prog.cellsOf 3 = 1 := by kernel_rfl
  have hs : Try.prog.cellsOf 23 = 1 := by kernel_rfl
  have ha : Try.prog.cellsOf 22 = 2 := by kernel_rfl
  have h4 : cs.length = 4 := by rw [(opn_struct Try.underlying25 h).1]; kernel_rfl
  obtain ⟨x0, x1, x2, x3, rfl⟩ := list4 cs h4
  obtain ⟨m0, y0, h0⟩ := opn_field Try.underlying25 h 0 3 0 1 (by kernel_rfl) hn
  obtain ⟨mF, yF, hF⟩ := opn_field Try.underlying25 h 1 22 1 2 (by kernel_rfl) ha
  obtain ⟨m3, y3, h3⟩ := opn_field Try.underlying25 h 2 23 3 1 (by kernel_rfl) hs
  obtain ⟨m1, y1, h1⟩ := opn_array1 Try.underlying22 hF 1 hn 0 (by decide)
  obtain ⟨m2, y2, h2⟩ := opn_array1 Try.underlying22 hF 1 hn 1 (by decide)
  obtain ⟨a0, e0, _⟩ := opn_int Try.underlying3 _ _ _ _ _ _ h0
  obtain ⟨a1, e1, _⟩ := opn_int Try.underlying3 _ _ _ _ _ _ h1
  obtain ⟨a2, e2, _⟩ := opn_int Try.underlying3 _ _ _ _ _ _ h2
  obtain ⟨l3, A3, c3, e3, hl3, hm3, hr3⟩ := opn_slice (n := 1) (R := RInt .u8) Try.underlying23 (by kernel_rfl) (opn_int Try.underlying5) _ _ _ _ _ _ h3
  simp at e0 e1 e2 e3
  exact ⟨⟨a0, a1, a2, A3, l3, c3⟩, by rw [e0, e1, e2, e3]; rfl, rsl_reads (d := Kd.int .u8) hr3 (fun cs x hx => hx.1) (Nat.le_trans hl3 hm3), hl3, fun x hx => wf_u8 (hr3.ints.2 x hx)⟩
theorem ends_row (x : Img) (a1 : Int) (w : World) (hx : Kd.C (Kd.int .u8) w x.A3 x.l3.length x.l3 ∧ x.l3.length ≤ x.c3 ∧ Bytes x.l3) (_ : (Lit.int .i64 a1).wf = true) :
    Calls Try.prog 4 #[.agg x.arr, .int .i64 a1] w fun e w' => e = .returned (.bool true) ∧ Below w.heap.size w w' :=
  busbarlaw11_WalkEnds.calls 2000 x.f0 x.f1 x.f2 x.A3 x.c3 x.l3 a1 true w hx.1 hx.2.1 (ends_pure _ _ _ _ _ hx.2.2)
end Go.Proofs.Ytekbaconbemgpaa.PWe
