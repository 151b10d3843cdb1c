/- Whole structs: a load out of a place that came in, by its cells. Helper text. -/
import Derived.Test.YtmoodblpgnnenaaDoorK3
import Derived.Laws.Rows
import Derived.Laws.Tables
import Derived.Deep.Slices
import Derived.OpenShut
namespace Go.Proofs.YtmoodblpgnnenaaDoor.Kx
open Go.RowKit
set_option linter.unusedVariables false
set_option linter.unusedSimpArgs false

theorem run_loadVar_cells {P : Program} (w : World) (p : Addr) (ty : TypeId) (cs : List Value) (d : TypeDesc) (hc : ∀ j, j < cs.length → w.cell? (p.add j) = cs[j]?)
    (hu : P.underlying ty = some d) (hd : (match d with | .struct _ | .array _ _ => true | _ => false) = true) (hi : (P.info? ty).map (·.size) = some cs.length) :
    (loadVar ty p).run P w = .ok (.agg cs.toArray) w := by
  have hl : (loadCells p cs.length).run P w = .ok cs.toArray w :=
    run_loadCells_list (P := P) w p cs (fun j v hv => by
      have hj : j < cs.length := (List.getElem?_eq_some_iff.1 hv).1
      rw [hc j hj, hv])
  cases hq : P.info? ty with
  | none => simp [hq] at hi
  | some i =>
    have hs : i.size = cs.length := by simpa [hq] using hi
    have hagg : (isAgg ty).run P w = .ok true w := by
      unfold isAgg
      rw [Sem.run_bind, run_underlying hu w]
      cases d <;> simp_all
    simp [loadVar, Sem.run_bind, hagg, sizeOf, typeInfo, hq, hs, hl]
theorem wpList_load_cells {P : Program} {ops : Array Oper} {rest : List Oper} {o : Oper} {a : Act} {w : World} {Q : Exit → Act → World → Prop} (hgd : o.guard = none) (ty : TypeId) (x : Operand) (ho : o.op = .load ty x)
    (p : Addr) (hx : a.eval x = .pointer (some p)) (cs : List Value) (d : TypeDesc) (hc : ∀ j, j < cs.length → w.cell? (p.add j) = cs[j]?)
    (hu : P.underlying ty = some d) (hd : (match d with | .struct _ | .array _ _ => true | _ => false) = true) (hi : (P.info? ty).map (·.size) = some cs.length)
    (h : wpList P ops Q rest (a.put o.dst (.agg cs.toArray)) w) : wpList P ops Q (o :: rest) a w :=
  wpList_plain hgd fun _ hK => by
    unfold Oper.wp execOp
    simp only [ho, hx, Instr.loadAt, Instr.sureAddr, Sem.run_bind, Sem.run_pure, Result.andThen_ok, run_loadVar_cells w p ty cs d hc hu hd hi]
    exact hK _ _ h
/-- A struct's field, by its type, its place and its number of cells. -/
theorem opn_field {t : TypeId} {fs : Array Field} (ht : Tryd.prog.underlying t = some (.struct fs)) {H : Type} {enc : TypeId × Value → H} {w : World} {held : Bool} {fuel : Nat} {cs : List Value} {d : DataW H × List MemPlace}
    (h : DataW.trod enc Tryd.prog w 0 (fun _ => true) held fuel t cs = some d) (i : Nat) (T : TypeId) (off k : Nat) (hi : (fs[i]?.map fun f => (f.type, f.offset)) = some (T, off)) (hk : Tryd.prog.cellsOf T = k) :
    ∃ n y, DataW.trod enc Tryd.prog w 0 (fun _ => true) held n T ((cs.drop off).take k) = some y := by
  obtain ⟨f, hf, he⟩ := Option.map_eq_some_iff.1 hi
  obtain ⟨n, y, hy⟩ := (opn_struct ht h).2 i f hf
  simp only [Prod.mk.injEq] at he
  obtain ⟨rfl, rfl⟩ := he
  rw [hk] at hy
  exact ⟨n, y, hy⟩
theorem opn_item {t e : TypeId} {n : Nat} (ht : Tryd.prog.underlying t = some (.array n e)) {H : Type} {enc : TypeId × Value → H} {w : World} {held : Bool} {fuel : Nat} {cs : List Value} {d : DataW H × List MemPlace}
    (h : DataW.trod enc Tryd.prog w 0 (fun _ => true) held fuel t cs = some d) (k : Nat) (hk : Tryd.prog.cellsOf e = k) (i : Nat) (hi : i < n) : ∃ m y, DataW.trod enc Tryd.prog w 0 (fun _ => true) held m e ((cs.drop (i * k)).take k) = some y := by
  have := (opn_array ht h).2 i hi
  rwa [hk] at this
theorem add_two (p : Addr) (a b : Nat) : p.add (a + b) = (p.add a).add b := (Go.Deep.add_add p a b).symm
/-- An element of a slice that came in: its place, its cells. -/
theorem at_place {X : Type} {n : Nat} {R : World → List Value → X → Prop} {w : World} {A : Option Addr} {xs : List X} [Inhabited X] (h : RSl n R w A xs) (hn : 0 < n) (i : Nat) (hi : i < xs.length) :
    ∃ ad cs pb po, A = some ad ∧ ad.add (i * n) = ⟨pb, po, none⟩ ∧ pb < w.heap.size ∧ cs.length = n ∧ (∀ j, j < n → w.cell? ⟨pb, po + j, none⟩ = cs[j]?) ∧ R w cs (xs.getD i default) := by
  obtain ⟨ad, cs, h1, h2, h3, h4⟩ := h i hi
  have h0 := h3 0 hn
  rw [List.getElem?_eq_getElem (by omega), Nat.add_zero] at h0
  obtain ⟨pb, po, sp, hp⟩ : ∃ pb po sp, ad.add (i * n) = ⟨pb, po, sp⟩ := ⟨_, _, _, rfl⟩
  have hsp : sp = none := by
    cases sp with
    | none => rfl
    | some s =>
      rw [hp] at h0
      simp only [World.cell?] at h0
      split at h0 <;> simp at h0
  subst hsp
  refine ⟨ad, cs, pb, po, h1, hp, ?_, h2, fun j hj => ?_, by rw [List.getD_eq_getElem?_getD, List.getElem?_eq_getElem hi]; exact h4⟩
  · rw [hp] at h0
    exact World.block_lt_of_cell? w _ h0
  · rw [← h3 j hj, add_two, hp]
    congr 1
    unfold Addr.add
    split <;> simp_all
/-- .. and a slice without memory has no capacity. -/
def RSliceN {X : Type} (n : Nat) (R : World → List Value → X → Prop) (w : World) (cs : List Value) (xs : List X) : Prop :=
  ∃ A c, cs = [.slice A xs.length c] ∧ xs.length ≤ c ∧ c ≤ maxLen ∧ (A = none → c = 0) ∧ RSl n R w A xs
theorem opn_sliceN {X : Type} [Inhabited X] {t e : TypeId} {n : Nat} {R : World → List Value → X → Prop} (ht : Tryd.prog.underlying t = some (.slice e)) (hn : Tryd.prog.cellsOf e = n) (hR : Opn e R) : Opn t (RSliceN n R) := fun enc w held fuel cs d h => by
  rcases Go.Deep.open_slice ht h with ⟨rfl, _⟩ | ⟨a, len, cap, m, q, D, Pl, rfl, _, hl, hm, hmm, _, hx⟩
  · exact ⟨[], none, 0, rfl, Nat.le_refl _, by simp [maxLen], fun _ => rfl, fun i h => absurd h (by simp)⟩
  · simp only [if_true] at hmm
    subst hmm
    rw [hn] at hx
    obtain ⟨F, hF⟩ := Go.Deep.choose_lt (α := X) (n := len) (p := fun i x => ∃ cs', w.cells? 0 (a.add (i * n)) n = some cs' ∧ R w cs' x) (fun i hi => by
      obtain ⟨cs', h1, h2⟩ := hx i (by omega)
      obtain ⟨x, hx'⟩ := hR enc w held q cs' _ h2
      exact ⟨x, cs', h1, hx'⟩)
    refine ⟨(List.range len).map F, some a, m, by simp, by simpa using hl, hm, (fun e => by cases e), fun i hi => ?_⟩
    have hi' : i < len := by simpa using hi
    obtain ⟨cs', h1, h2⟩ := hF i hi'
    obtain ⟨_, h3, h4⟩ := World.cells?_some h1
    refine ⟨a, cs', rfl, h3, fun j hj => ?_, by simpa using h2⟩
    rw [← h4 j hj, Go.Deep.add_add]
theorem below_setRow {B : Nat} {w w1 : World} (h : Below B w w1) {g : Nat} {cs : Array Value} (hb : B ≤ g) : Below B w (w1.setRow g cs) := by
  refine ⟨h.os, h.tape, h.output, ?_, fun k hk => ?_⟩
  · have := h.size
    simpa using this
  · rw [setRow_other w1 g k cs (by omega)]
    exact h.block k hk
end Go.Proofs.YtmoodblpgnnenaaDoor.Kx
