/- The key of a clock in a map: how it reads; what a map of ticks says of it. Helper text. -/
import Derived.Test.YtfmepbpipknblaaBuNear
import Derived.DeepKeys4
import Derived.WideKeyPair
import Derived.Maps.GroupsBeside
import Derived.Maps.Views
namespace Go.Proofs.Ytfmepbpipknblaa.PBu
open Go.RowKit Go.Proofs.YtfmepbpipknblaaW.PrintWords Go.Proofs.YtfmepbpipknblaaW.PrintLast Go.Proofs.YtfmepbpipknblaaW.PrintMore
set_option linter.unusedVariables false
set_option linter.unusedSimpArgs false

def kl (a : Int) (y : Bool) : Lit := .string (keyBytes [.int .i64 a, .bool y])
theorem lits_clock (a : Int) (y : Bool) (wa : (Lit.int .i64 a).wf = true) (d : Nat) : Try.prog.keyLits (d + 2) 134 [.int .i64 a, .bool y] = some [.int .i64 a, .bool y] := by
  have hn : Try.prog.cellsOf 3 = 1 := by kernel_rfl
  have hb : Try.prog.cellsOf 4 = 1 := by kernel_rfl
  have hc : Try.prog.cellsOf 134 = 2 := by kernel_rfl
  have k1 : Try.prog.keyLits (d + 1) 3 [.int .i64 a] = some [.int .i64 a] := by
    unfold Program.keyLits
    simp only [Try.underlying3]
    rw [if_pos ⟨trivial, wa⟩]
  have k2 : Try.prog.keyLits (d + 1) 4 [.bool y] = some [.bool y] := by
    unfold Program.keyLits
    simp only [Try.underlying4]
  unfold Program.keyLits
  simp only [Try.underlying134]
  rw [if_pos ⟨by rw [hc]; rfl, by simp⟩]
  simp [hn, hb, k1, k2]
theorem key_clock (a : Int) (y : Bool) (wa : (Lit.int .i64 a).wf = true) : keyOf Try.prog 134 (.agg #[.int .i64 a, .bool y]) = some (kl a y) := by
  unfold keyOf
  simp only [Try.underlying134]
  have h1 : Try.prog.keyType 134 = true := by kernel_rfl
  have h2 : Value.formed Try.prog 134 (.agg #[.int .i64 a, .bool y]) = true := by
    have hc : Try.prog.cellsOf 134 = 2 := by kernel_rfl
    simp [Value.formed, Try.underlying134, hc]
  have h3 : ∃ d, Try.prog.types.size + 1 = d + 2 := ⟨Try.prog.types.size - 1, by have : 1 ≤ Try.prog.types.size := of_decide_eq_true (by kernel_rfl); omega⟩
  obtain ⟨d, hd⟩ := h3
  rw [if_pos (by rw [h1, h2]; rfl), hd]
  show Option.map _ (Try.prog.keyLits (d + 2) 134 [.int .i64 a, .bool y]) = _
  rw [lits_clock a y wa d]
  rfl
theorem kl_inj {a b : Int} {y z : Bool} (wa : (Lit.int .i64 a).wf = true) (wb : (Lit.int .i64 b).wf = true) (h : kl a y = kl b z) : a = b ∧ y = z := by
  unfold kl at h
  injection h with h
  have := keyLits_inj (lits_clock a y wa 0) (lits_clock b z wb 0) h
  simp at this
  exact this
theorem kl_key (a : Int) (y : Bool) : WideAt.IsKeyLit (kl a y) := trivial
theorem clock_law : Maps.Keyed Try.prog 134 := Maps.Keyed.of_law (deep_law_laid (P := Try.prog) (by kernel_rfl) (m := 5) (by omega) (of_decide_eq_true (by kernel_rfl)) (by kernel_rfl) (by rw [Try.underlying134]))
/-- The ticks of a clock among some slips. -/
def grp (l : List S40) (a : Int) (y : Bool) : List Int := (l.filter fun s => s.f0 == a && s.f1 == y).map (·.f2)
theorem grp_same (l : List S40) (s : S40) : grp (l ++ [s]) s.f0 s.f1 = grp l s.f0 s.f1 ++ [s.f2] := by simp [grp]
theorem grp_other (l : List S40) (s : S40) (a : Int) (y : Bool) (h : ¬ (a = s.f0 ∧ y = s.f1)) : grp (l ++ [s]) a y = grp l a y := by
  unfold grp
  rw [List.filter_append, List.filter_cons, if_neg, List.filter_nil, List.append_nil]
  simp only [Bool.and_eq_true, beq_iff_eq]
  exact fun e => h ⟨e.1.symm, e.2.symm⟩
theorem grp_len (l : List S40) (a : Int) (y : Bool) : (grp l a y).length ≤ l.length := by
  unfold grp
  rw [List.length_map]
  exact List.length_filter_le _ _
/-- A map that holds, clock by clock, the ticks of some slips. -/
def GRel (D : DataW Unit) (l : List S40) : Prop := Maps.IsMap D ∧ ∀ a y, (Lit.int .i64 a).wf = true → (grp l a y = [] ∧ D.atKey (kl a y) .nil = .nil) ∨ D.atKey (kl a y) .nil = .slice (Go.ChangeShapes.lits .i64 (grp l a y)) []
theorem GRel.start : GRel (.map []) [] := ⟨Maps.isMap_empty, fun a y _ => .inl ⟨rfl, rfl⟩⟩
theorem GRel.found {D : DataW Unit} {l : List S40} (h : GRel D l) {a : Int} {y : Bool} (wa : (Lit.int .i64 a).wf = true) {w : World} {base : Nat} {v : Value} {zs : List Int} (hat : D.atKey (kl a y) .nil = rowDatum .i64 v zs) (ho : w.ownsInts base 3 .i64 v zs) : zs = grp l a y := by
  rcases ho.datum (H := Unit) with ⟨e, rfl⟩ | e
  · rcases h.2 a y wa with ⟨hg, _⟩ | hs
    · exact hg.symm
    · rw [hat, e] at hs
      cases hs
  · rcases h.2 a y wa with ⟨_, hn⟩ | hs
    · rw [hat, e] at hn
      cases hn
    · rw [hat, e] at hs
      injection hs with hs
      exact (List.map_inj_right (fun a b hab => by cases hab; rfl)).1 hs
theorem GRel.put {D : DataW Unit} {l : List S40} (h : GRel D l) (s : S40) (ws : (Lit.int .i64 s.f0).wf = true) {w : World} {base : Nat} {v : Value} (ho : w.ownsInts base 3 .i64 v (grp l s.f0 s.f1 ++ [s.f2])) :
    GRel (D.put (kl s.f0 s.f1) (rowDatum .i64 v (grp l s.f0 s.f1 ++ [s.f2]))) (l ++ [s]) := by
  refine ⟨?_, fun a y wa => ?_⟩
  · exact h.1.put _ _
  · by_cases e : a = s.f0 ∧ y = s.f1
    · obtain ⟨rfl, rfl⟩ := e
      right
      rw [Maps.atKey_put_same h.1 (kl_key _ _), grp_same]
      exact ho.datum_pos (by simp)
    · rw [grp_other _ _ _ _ e, Maps.atKey_put_other (fun e2 => e (kl_inj wa ws e2))]
      exact h.2 a y wa
end Go.Proofs.Ytfmepbpipknblaa.PBu
