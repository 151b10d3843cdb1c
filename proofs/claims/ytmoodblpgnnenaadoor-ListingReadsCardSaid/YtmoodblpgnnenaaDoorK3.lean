/- Arguments of nested data, opened: from the reading of an argument as data to its cells. Helper text. -/
import Derived.Test.YtmoodblpgnnenaaDoorKx
import Derived.OpenShut
import Derived.Deep.Slices
namespace Go.Proofs.YtmoodblpgnnenaaDoor.Kx
open Go.RowKit
set_option linter.unusedVariables false
set_option linter.unusedSimpArgs false

/-- Whatever cells read as a value of type t, R holds of them and of some x. -/
def Opn {X : Type} (t : TypeId) (R : World → List Value → X → Prop) : Prop :=
  ∀ {H : Type} (enc : TypeId × Value → H) (w : World) (held : Bool) (fuel : Nat) (cs : List Value) (d : DataW H × List MemPlace),
    DataW.trod enc Tryd.prog w 0 (fun _ => true) held fuel t cs = some d → ∃ x : X, R w cs x

def RInt (k : IntKind) (w : World) (cs : List Value) (x : Int) : Prop := cs = [.int k x] ∧ (Lit.int k x).wf = true
def RBool (w : World) (cs : List Value) (x : Bool) : Prop := cs = [.bool x]
def RStr (w : World) (cs : List Value) (x : ByteArray) : Prop := cs = [.string x] ∧ x.size ≤ maxLen
theorem opn_int {t : TypeId} {k : IntKind} (ht : Tryd.prog.underlying t = some (.int k)) : Opn t (RInt k) := fun enc w held fuel cs d h => by
  obtain ⟨n, rfl, _, hw⟩ := DataW.trod_int ht h
  exact ⟨n, rfl, hw⟩
theorem opn_bool {t : TypeId} (ht : Tryd.prog.underlying t = some .bool) : Opn t RBool := fun enc w held fuel cs d h => by
  obtain ⟨n, rfl, _⟩ := DataW.trod_bool ht h
  exact ⟨n, rfl⟩
theorem opn_str {t : TypeId} (ht : Tryd.prog.underlying t = some .string) : Opn t RStr := fun enc w held fuel cs d h => by
  obtain ⟨n, rfl, _, hw⟩ := DataW.trod_string ht h
  exact ⟨n, rfl, hw⟩
/-- A struct: each field's cells. -/
theorem opn_struct {t : TypeId} {fs : Array Field} (ht : Tryd.prog.underlying t = some (.struct fs)) {H : Type} {enc : TypeId × Value → H} {w : World} {held : Bool} {fuel : Nat} {cs : List Value} {d : DataW H × List MemPlace}
    (h : DataW.trod enc Tryd.prog w 0 (fun _ => true) held fuel t cs = some d) : cs.length = Tryd.prog.cellsOf t ∧ ∀ (i : Nat) (f : Field), fs[i]? = some f → ∃ n y, DataW.trod enc Tryd.prog w 0 (fun _ => true) held n f.type ((cs.drop f.offset).take (Tryd.prog.cellsOf f.type)) = some y := by
  obtain ⟨xs, n, _, _, hl, hx, hf⟩ := DataW.trod_struct ht h
  refine ⟨hl, fun i f hi => ?_⟩
  have := hf i f hi
  have hlt : i < xs.length := by rw [hx]; exact (Array.getElem?_eq_some_iff.1 hi).1
  rw [List.getElem?_eq_getElem hlt] at this
  exact ⟨n, _, this⟩
theorem opn_array {t e : TypeId} {n : Nat} (ht : Tryd.prog.underlying t = some (.array n e)) {H : Type} {enc : TypeId × Value → H} {w : World} {held : Bool} {fuel : Nat} {cs : List Value} {d : DataW H × List MemPlace}
    (h : DataW.trod enc Tryd.prog w 0 (fun _ => true) held fuel t cs = some d) : cs.length = Tryd.prog.cellsOf t ∧ ∀ i, i < n → ∃ m y, DataW.trod enc Tryd.prog w 0 (fun _ => true) held m e ((cs.drop (i * Tryd.prog.cellsOf e)).take (Tryd.prog.cellsOf e)) = some y := by
  obtain ⟨xs, m, _, _, hl, hx, hf⟩ := DataW.trod_array ht h
  refine ⟨hl, fun i hi => ?_⟩
  have := hf i hi
  rw [List.getElem?_eq_getElem (by omega)] at this
  exact ⟨m, _, this⟩

/-- A slice by its address, with elements of so many cells: each element's cells, and what they are. -/
def RSl {X : Type} (n : Nat) (R : World → List Value → X → Prop) (w : World) (A : Option Addr) (xs : List X) : Prop :=
  ∀ i (h : i < xs.length), ∃ ad cs, A = some ad ∧ cs.length = n ∧ (∀ j, j < n → w.cell? (ad.add (i * n + j)) = cs[j]?) ∧ R w cs xs[i]
def RSlice {X : Type} (n : Nat) (R : World → List Value → X → Prop) (w : World) (cs : List Value) (xs : List X) : Prop :=
  ∃ A c, cs = [.slice A xs.length c] ∧ xs.length ≤ c ∧ c ≤ maxLen ∧ RSl n R w A xs
theorem opn_slice {X : Type} [Inhabited X] {t e : TypeId} {n : Nat} {R : World → List Value → X → Prop} (ht : Tryd.prog.underlying t = some (.slice e)) (hn : Tryd.prog.cellsOf e = n) (hR : Opn e R) : Opn t (RSlice n R) := fun enc w held fuel cs d h => by
  rcases Go.Deep.open_slice ht h with ⟨rfl, _⟩ | ⟨a, len, cap, m, q, D, Pl, rfl, _, hl, hm, hmm, _, hx⟩
  · exact ⟨[], none, 0, rfl, Nat.le_refl _, by simp [maxLen], fun i h => absurd h (by simp)⟩
  · simp only [if_true] at hmm
    subst hmm
    rw [hn] at hx
    obtain ⟨F, hF⟩ := Go.Deep.choose_lt (α := X) (n := len) (p := fun i x => ∃ cs', w.cells? 0 (a.add (i * n)) n = some cs' ∧ R w cs' x) (fun i hi => by
      obtain ⟨cs', h1, h2⟩ := hx i (by omega)
      obtain ⟨x, hx'⟩ := hR enc w held q cs' _ h2
      exact ⟨x, cs', h1, hx'⟩)
    refine ⟨(List.range len).map F, some a, m, by simp, by simpa using hl, hm, fun i hi => ?_⟩
    have hi' : i < len := by simpa using hi
    obtain ⟨cs', h1, h2⟩ := hF i hi'
    obtain ⟨_, h3, h4⟩ := World.cells?_some h1
    refine ⟨a, cs', rfl, h3, fun j hj => ?_, by simpa using h2⟩
    rw [← h4 j hj, Go.Deep.add_add]
/-- A slice of whole numbers, in the simpler form. -/
theorem RSl.ints {k : IntKind} {w : World} {A : Option Addr} {xs : List Int} (h : RSl 1 (RInt k) w A xs) : RdI w k A xs ∧ wfs k xs := by
  refine ⟨fun i hi => ?_, fun x hx => ?_⟩
  · obtain ⟨ad, cs, hA, hl, hc, rfl, hw⟩ := h i hi
    refine ⟨ad, hA, ?_⟩
    have := hc 0 (by omega)
    simp only [Nat.mul_one, Nat.add_zero, List.getElem?_cons_zero] at this
    rw [this, List.getD_eq_getElem?_getD, List.getElem?_eq_getElem hi]
    rfl
  · obtain ⟨i, hi, rfl⟩ := List.getElem_of_mem hx
    obtain ⟨ad, cs, hA, hl, hc, rfl, hw⟩ := h i hi
    exact hw
/-- A relation that lives on, where the world only grows. -/
def Lives {X : Type} (R : World → List Value → X → Prop) : Prop := ∀ {w w1 : World} {cs : List Value} {x : X}, R w cs x → Below w.heap.size w w1 → R w1 cs x
theorem lives_int (k : IntKind) : Lives (RInt k) := fun h _ => h
theorem RSl.below {X : Type} {n : Nat} {R : World → List Value → X → Prop} (hR : Lives R) {w w1 : World} {A : Option Addr} {xs : List X} (h : RSl n R w A xs) (hb : Below w.heap.size w w1) : RSl n R w1 A xs := fun i hi => by
  obtain ⟨ad, cs, hA, hl, hc, hr⟩ := h i hi
  refine ⟨ad, cs, hA, hl, fun j hj => ?_, hR hr hb⟩
  have h1 := hc j hj
  rw [List.getElem?_eq_getElem (by omega)] at h1
  rw [List.getElem?_eq_getElem (by omega)]
  exact cell_below' hb h1
end Go.Proofs.YtmoodblpgnnenaaDoor.Kx
