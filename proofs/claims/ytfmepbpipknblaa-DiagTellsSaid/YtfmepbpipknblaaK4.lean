/- Whole structs: a load out of a place that came in, by its cells. Helper text. -/
import Derived.Test.YtfmepbpipknblaaK3
import Derived.Laws.Rows
import Derived.Laws.Tables
namespace Go.Proofs.Ytfmepbpipknblaa.Kx
open Go.RowKit
set_option linter.unusedVariables false
set_option linter.unusedSimpArgs false

theorem run_loadVar_cells {P : Program} (w : World) (p : Addr) (ty : TypeId) (cs : List Value) (d : TypeDesc) (hc : ∀ j, j < cs.length → w.cell? (p.add j) = cs[j]?)
    (hu : P.underlying ty = some d) (hd : (match d with | .struct _ | .array _ _ => true | _ => false) = true) (hi : (P.info? ty).map (·.size) = some cs.length) :
    (loadVar ty p).run P w = .ok (.agg cs.toArray) w := by
  have hl : (loadCells p cs.length).run P w = .ok cs.toArray w :=
    run_loadCells_list (P := P) w p cs (fun j v hv => by
      have hj : j < cs.length := (List.getElem?_eq_some_iff.1 hv).1
      rw [hc j hj, hv])
  cases hq : P.info? ty with
  | none => simp [hq] at hi
  | some i =>
    have hs : i.size = cs.length := by simpa [hq] using hi
    have hagg : (isAgg ty).run P w = .ok true w := by
      unfold isAgg
      rw [Sem.run_bind, run_underlying hu w]
      cases d <;> simp_all
    simp [loadVar, Sem.run_bind, hagg, sizeOf, typeInfo, hq, hs, hl]
theorem wpList_load_cells {P : Program} {ops : Array Oper} {rest : List Oper} {o : Oper} {a : Act} {w : World} {Q : Exit → Act → World → Prop} (hgd : o.guard = none) (ty : TypeId) (x : Operand) (ho : o.op = .load ty x)
    (p : Addr) (hx : a.eval x = .pointer (some p)) (cs : List Value) (d : TypeDesc) (hc : ∀ j, j < cs.length → w.cell? (p.add j) = cs[j]?)
    (hu : P.underlying ty = some d) (hd : (match d with | .struct _ | .array _ _ => true | _ => false) = true) (hi : (P.info? ty).map (·.size) = some cs.length)
    (h : wpList P ops Q rest (a.put o.dst (.agg cs.toArray)) w) : wpList P ops Q (o :: rest) a w :=
  wpList_plain hgd fun _ hK => by
    unfold Oper.wp execOp
    simp only [ho, hx, Instr.loadAt, Instr.sureAddr, Sem.run_bind, Sem.run_pure, Result.andThen_ok, run_loadVar_cells w p ty cs d hc hu hd hi]
    exact hK _ _ h
/-- A struct's field, by its type, its place and its number of cells. -/
theorem opn_field {t : TypeId} {fs : Array Field} (ht : Try.prog.underlying t = some (.struct fs)) {H : Type} {enc : TypeId × Value → H} {w : World} {held : Bool} {fuel : Nat} {cs : List Value} {d : DataW H × List MemPlace}
    (h : DataW.trod enc Try.prog w 0 (fun _ => true) held fuel t cs = some d) (i : Nat) (T : TypeId) (off k : Nat) (hi : (fs[i]?.map fun f => (f.type, f.offset)) = some (T, off)) (hk : Try.prog.cellsOf T = k) :
    ∃ n y, DataW.trod enc Try.prog w 0 (fun _ => true) held n T ((cs.drop off).take k) = some y := by
  obtain ⟨f, hf, he⟩ := Option.map_eq_some_iff.1 hi
  obtain ⟨n, y, hy⟩ := (opn_struct ht h).2 i f hf
  simp only [Prod.mk.injEq] at he
  obtain ⟨rfl, rfl⟩ := he
  rw [hk] at hy
  exact ⟨n, y, hy⟩
theorem opn_item {t e : TypeId} {n : Nat} (ht : Try.prog.underlying t = some (.array n e)) {H : Type} {enc : TypeId × Value → H} {w : World} {held : Bool} {fuel : Nat} {cs : List Value} {d : DataW H × List MemPlace}
    (h : DataW.trod enc Try.prog w 0 (fun _ => true) held fuel t cs = some d) (k : Nat) (hk : Try.prog.cellsOf e = k) (i : Nat) (hi : i < n) : ∃ m y, DataW.trod enc Try.prog w 0 (fun _ => true) held m e ((cs.drop (i * k)).take k) = some y := by
  have := (opn_array ht h).2 i hi
  rwa [hk] at this
theorem below_setRow {B : Nat} {w w1 : World} (h : Below B w w1) {g : Nat} {cs : Array Value} (hb : B ≤ g) : Below B w (w1.setRow g cs) := by
  refine ⟨h.os, h.tape, h.output, ?_, fun k hk => ?_⟩
  · have := h.size
    simpa using this
  · rw [setRow_other w1 g k cs (by omega)]
    exact h.block k hk
end Go.Proofs.Ytfmepbpipknblaa.Kx
