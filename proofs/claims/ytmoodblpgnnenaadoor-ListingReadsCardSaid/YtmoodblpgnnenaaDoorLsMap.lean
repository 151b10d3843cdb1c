/- The map of verbs; a piece taken; what a line is read as: plain. Helper text. -/
import Derived.Test.YtmoodblpgnnenaaDoorLsLin
import Derived.Maps.Views
import Derived.Maps.OwnSet
import Derived.StringKeys
namespace Go.Proofs.YtmoodblpgnnenaaDoor.PLs
open Go.RowKit Go.Proofs.YtmoodblpgnnenaaDoor.Kx Go.Proofs.YtmoodblpgnnenaaDoor.PWe Go.Proofs.YtmoodblpgnnenaaDoorW.PrintWords Go.Proofs.YtmoodblpgnnenaaDoorW.PrintLast Go.Proofs.YtmoodblpgnnenaaDoorW.PrintMore
set_option linter.unusedVariables false
set_option linter.unusedSimpArgs false
/-- The map with so many verbs. -/
def mapV : Nat → DataW Unit
  | 0 => .map []
  | n + 1 => (mapV n).put (.string (vb n)) (.lit (.int .i64 (n : Int)))
/-- Which verb it is. -/
def vIx : Nat → List UInt8 → Option Nat
  | 0, _ => none
  | n + 1, s => if vb n = s then some n else vIx n s
def ixV : Option Nat → Int
  | some i => (i : Int)
  | none => 0
theorem mapV_isMap : ∀ n, Maps.IsMap (mapV n)
  | 0 => by first | exact ⟨[], rfl⟩ | exact Maps.IsMap.nil | trivial
  | n + 1 => (mapV_isMap n).put _ _
theorem key_str (s : List UInt8) : WideAt.IsKeyLit (.string s) := trivial
theorem mapV_look (s : List UInt8) : ∀ n, Maps.has (mapV n) (.string s) = (vIx n s).isSome ∧ (mapV n).atKey (.string s) (.lit (.int .i64 0)) = .lit (.int .i64 (ixV (vIx n s)))
  | 0 => ⟨rfl, rfl⟩
  | n + 1 => by
    obtain ⟨h1, h2⟩ := mapV_look s n
    by_cases h : vb n = s
    · subst h
      rw [mapV, vIx, if_pos rfl]
      exact ⟨Maps.has_put_same (mapV_isMap n) (key_str _) _, Maps.atKey_put_same (mapV_isMap n) (key_str _) _ _⟩
    · have hne : (Lit.string s) ≠ (Lit.string (vb n)) := fun e => h (Lit.string.inj e).symm
      rw [mapV, vIx, if_neg h, Maps.has_put_other hne, Maps.atKey_put_other hne]
      exact ⟨h1, h2⟩
/-- A piece more is taken. -/
def takeP (l : List (List UInt8)) (f : Bool) : List (List UInt8) × Bool × Int :=
  match l.tail with
  | [] => ([[]], false, 0)
  | p :: q => (p :: q, f && (numP p).isSome, numV (numP p))
def runT : List Nat → List (List UInt8) → Bool → List Int → List (List UInt8) × Bool × List Int
  | [], l, f, C => (l, f, C)
  | j :: js, l, f, C => runT js (takeP l f).1 (takeP l f).2.1 (C.set j (takeP l f).2.2)
def parseR (s : List UInt8) : List (List UInt8) × Bool × List Int :=
  runT (offN (ixV (vIx 9 ((spl 32 s).headD [])))) (spl 32 s) (vIx 9 ((spl 32 s).headD [])).isSome [ixV (vIx 9 ((spl 32 s).headD [])), 0, 0, 0, 0, 0, 0]
def parseP (s : List UInt8) : List Int × Int :=
  if (parseR s).2.1 = true ∧ (parseR s).1.length = 1 ∧ rightL (parseR s).2.2 = true then ((parseR s).2.2, 0) else (zero7, 30)
theorem takeP_ne (l : List (List UInt8)) (f : Bool) : 1 ≤ (takeP l f).1.length := by
  unfold takeP
  cases l.tail <;> simp
theorem vIx_lt {s : List UInt8} : ∀ {n i : Nat}, vIx n s = some i → i < n ∧ vb i = s
  | 0, i, h => by cases h
  | n + 1, i, h => by
    rw [vIx] at h
    split at h
    · obtain rfl := Option.some.inj h
      exact ⟨Nat.lt_succ_self _, by assumption⟩
    · have := vIx_lt h
      exact ⟨by omega, this.2⟩
end Go.Proofs.YtmoodblpgnnenaaDoor.PLs
