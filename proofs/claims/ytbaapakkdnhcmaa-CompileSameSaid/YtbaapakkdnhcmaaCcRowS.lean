/- The row of the law CompileSame, out of its walk: for every input the law returns true, and each argument reads as it did. Conditions: none. -/
import Derived.Test.YtbaapakkdnhcmaaRows
import Derived.Test.YtbaapakkdnhcmaaCcSam
import Derived.Test.YtbaapakkdnhcmaaCcP
import Derived.WalkKit
import Derived.ProofKit
import Derived.OpenShut
import Derived.ShutString
import Derived.ChangeOld
import Derived.Below
import Derived.SizedLaws
import Derived.Deep.Grids
namespace Go.Proofs.Ytbaapakkdnhcmaa.PWe
open Go.RowKit Go.Proofs.Ytbaapakkdnhcmaa.Kx Go.Proofs.YtbaapakkdnhcmaaW.PrintWords Go.Proofs.YtbaapakkdnhcmaaW.PrintLast Go.Proofs.YtbaapakkdnhcmaaW.PrintMore
set_option linter.unusedVariables false

theorem okWide_array {P : Program} {n : Nat} {e t : TypeId} {w : World} {r : Reach} {base : Nat} {v : Value} (ht : P.underlying t = some (.array n e)) (h : Value.okWide P w r base t v) : ∃ cs, v = .agg cs ∧ cs.size = P.cellsOf t := by
  simp only [Value.okWide, ht] at h
  obtain ⟨cs, h1, h2, _⟩ := h
  exact ⟨cs, h1, h2⟩
def Two.arr (x : Int × Int) : Array Value := #[.int .i64 x.1, .int .i64 x.2]
def RTwo (w : World) (cs : List Value) (x : Int × Int) : Prop := cs = (Two.arr x).toList
theorem opn_two : Opn 22 RTwo := by
  intro H enc w held fuel cs d h
  have hn : Try.prog.cellsOf 3 = 1 := by kernel_rfl
  have h4 : cs.length = 2 := by rw [(opn_array Try.underlying22 h).1]; kernel_rfl
  match cs, h4 with
  | [x0, x1], _ =>
    obtain ⟨m1, y1, h1⟩ := opn_item Try.underlying22 h 1 hn 0 (by decide)
    obtain ⟨m2, y2, h2⟩ := opn_item Try.underlying22 h 1 hn 1 (by decide)
    obtain ⟨a1, e1, _⟩ := opn_int Try.underlying3 _ _ _ _ _ _ h1
    obtain ⟨a2, e2, _⟩ := opn_int Try.underlying3 _ _ _ _ _ _ h2
    simp at e1 e2
    exact ⟨(a1, a2), by rw [e1, e2]; rfl⟩
theorem sames_row (x : Sch) (y : Int × Int) (w : World) (hx : Kd.C k76 w x.A0 x.l0.length x.l0 ∧ Kd.C k76 w x.A1 x.l1.length x.l1 ∧ x.l0.length ≤ x.c0 ∧ x.l1.length ≤ x.c1) :
    Calls Try.prog 6 #[.agg x.arr, .agg (Two.arr y)] w fun e w' => e = .returned (.bool true) ∧ Below w.heap.size w w' :=
  sames_calls x.md x.A0 x.A1 x.c0 x.c1 x.l0 x.l1 y.1 y.2 w hx.1 hx.2.2.1 hx.2.1 hx.2.2.2
end Go.Proofs.Ytbaapakkdnhcmaa.PWe
namespace Go.Proofs.Ytbaapakkdnhcmaa.compileSame
open Go.ChangeShapes Go.WideShapes Go.ChangeAt Go.RowKit Go.Proofs.Ytbaapakkdnhcmaa.Kx
open Go.ChangeMaps (open_string shut_string)
set_option linter.unusedVariables false
set_option linter.unusedSimpArgs false
theorem own : ownKnob Try.prog.godebug = none := by kernel_rfl
theorem laidOut : laidOutB Try.prog = true := by kernel_rfl
set_option maxRecDepth 100000 in
theorem lifted (os : Os) (started : os.Started) (H : Type) (enc : TypeId × Value → H) :
    ReturnsInHanded {} Try.checked os 6 .any (Rows.compileSameSpec.pre6 enc Try.prog Try.f6 Rows.compileSameRow.domain false) (Rows.compileSameSpec.post enc Try.prog Try.f6 false true false false) := by
  refine returnsInHanded_of_change_sized (C := Try.checked) own started (by kernel_rfl) Try.func6
    (ChangeSpec.witness6 (enc := enc) (C := Try.checked) false ⟨#[], #[.agg #[.int .i64 0, .slice none 0 0, .slice none 0 0], .agg #[.int .i64 0, .int .i64 0]], []⟩ 8 (by kernel_rfl) (by kernel_rfl) (by kernel_rfl) (by kernel_rfl)) ?_
  intro W base args ds gs before hval0 hW hcnd hsz0 _
  have hsz : (DataW.weightsEach Try.prog (Try.f6.params.toList ++ Rows.compileSameSpec.plain.varTypes Try.prog) (ds ++ gs)).all (· ≤ reachBytes) = true := hsz0
  have hval : ∀ (j : Nat) t v, Try.f6.params[j]? = some t → args[j]? = some v → Value.okWide Try.prog W .any base t v := hval0
  have hW' := hW
  obtain ⟨p, q, hA0, hV, rfl, hfz, hnd⟩ := hW
  have hA : DataW.TrodAll enc Try.prog W 0 (fun _ => true) true Try.f6.params.toList args.toList ds p := hA0
  rw [Try.params6] at hA hval hsz
  obtain ⟨v0, vs0, d0, ds0, p0, q0, hargs, rfl, rfl, h0, r0⟩ := trodAll_cons hA
  obtain ⟨v1, vs1, d1, ds1, p1, q1, rfl, rfl, rfl, h1, r1⟩ := trodAll_cons r0
  obtain ⟨rfl, rfl, rfl⟩ := trodAll_nil r1
  obtain rfl : args = #[v0, v1] := by cases args; simp_all
  obtain ⟨rfl, rfl⟩ := trodVars_none hV
  obtain ⟨cs0, rfl, _⟩ := okWide_struct Try.underlying43 (hval 0 43 v0 rfl rfl)
  have k0 := h0
  have lt0 : ∀ x ∈ p0, x.block < W.heap.size := by obtain ⟨m, hm⟩ := k0; exact DataW.trod_lt m _ _ _ hm
  have hx0 : ∃ x, PWe.RSch W (Value.agg cs0).cells.toList x := by obtain ⟨fuel, hf⟩ := h0; exact PWe.opn_sch _ _ _ _ _ _ hf
  obtain ⟨a0, hcs0, w0⟩ := hx0
  obtain rfl : cs0 = PWe.Sch.arr a0 := Array.toList_inj.1 hcs0
  obtain ⟨cs1, rfl, _⟩ := PWe.okWide_array Try.underlying22 (hval 1 22 v1 rfl rfl)
  have k1 := h1
  have lt1 : ∀ x ∈ p1, x.block < W.heap.size := by obtain ⟨m, hm⟩ := k1; exact DataW.trod_lt m _ _ _ hm
  have hx1 : ∃ x, PWe.RTwo W (Value.agg cs1).cells.toList x := by obtain ⟨fuel, hf⟩ := h1; exact PWe.opn_two _ _ _ _ _ _ hf
  obtain ⟨a1, hcs1⟩ := hx1
  obtain rfl : cs1 = PWe.Two.arr a1 := Array.toList_inj.1 hcs1
  clear hA0 hval0 hsz0 hsz
  refine (PWe.sames_row a0 a1 W w0).mono fun e W' ⟨he, bel⟩ => ?_
  subst he
  exact ⟨_, rfl, _, _, _, [], _, [], hW', trodAll_mk1 (shut_bool Try.underlying4 _), (trodAll_cons_mk (Below.trod laidOut (by kernel_rfl) (of_decide_eq_true (by kernel_rfl)) k0 bel lt0) (trodAll_cons_mk (Below.trod laidOut (by kernel_rfl) (of_decide_eq_true (by kernel_rfl)) k1 bel lt1) trodAll_mk0)), rfl, bel.frame _, fun h => by cases h⟩
theorem over : Rows.compileSameRow.holds Try.pinned (OpenSpec.ofChange Rows.compileSameSpec) :=
  OpenClaim.holds_of_wide 6 Try.f6 rfl rfl rfl rfl rfl rfl rfl ⟨rfl, rfl, rfl, rfl, rfl⟩ rfl rfl rfl rfl rfl (by kernel_rfl) Try.func6 (by kernel_rfl)
    (of_decide_eq_true (by kernel_rfl)) (by unfold Func.isWrapper; first | (rw [if_pos (by decide +kernel)]; kernel_rfl) | (rw [if_neg (by decide +kernel)]; exact ⟨rfl, rfl⟩))
    (fun os started H enc _ => lifted os started H enc)
theorem proved : Rows.CompileSameSaid := over
#print axioms proved
end Go.Proofs.Ytbaapakkdnhcmaa.compileSame
namespace Go.Proofs.Ytbaapakkdnhcmaa
/-- The row, under a short name, for the claim. -/
theorem compileSame_holds : Rows.CompileSameSaid := compileSame.proved
end Go.Proofs.Ytbaapakkdnhcmaa

