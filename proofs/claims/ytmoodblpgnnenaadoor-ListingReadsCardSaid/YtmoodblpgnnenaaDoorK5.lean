/- What an argument reads as, in the words of the printed functions. Helper text. -/
import Derived.Test.YtmoodblpgnnenaaDoorK4
import Derived.Test.YtmoodblpgnnenaaDoorWWords
namespace Go.Proofs.YtmoodblpgnnenaaDoor.Kx
open Go.RowKit Go.Proofs.YtmoodblpgnnenaaDoorW.PrintWords
set_option linter.unusedVariables false
set_option linter.unusedSimpArgs false

theorem rsl_reads {X : Type} {R : World → List Value → X → Prop} {d : Kd X} {w : World} {A : Option Addr} {xs : List X} (h : RSl d.sz R w A xs) (hR : ∀ cs x, R w cs x → d.K w x cs) (hm : xs.length ≤ maxLen) : Kd.C d w A xs.length xs :=
  ⟨rfl, hm, fun hn => by
    obtain ⟨ad, _, e, _⟩ := h 0 hn
    refine ⟨ad, e, fun j p hj => ?_⟩
    obtain ⟨hj', rfl⟩ := List.getElem?_eq_some_iff.1 hj
    obtain ⟨ad', cs, e', hl, hc, hr⟩ := h j hj'
    cases e.symm.trans e'
    exact ⟨cs, hl, hR _ _ hr, fun i u hu => by rw [hc i (by have := (List.getElem?_eq_some_iff.1 hu).1; omega), hu]⟩⟩
theorem list6 {α : Type} : ∀ (l : List α), l.length = 6 → ∃ a b c d e f, l = [a, b, c, d, e, f]
  | [a, b, c, d, e, f], _ => ⟨a, b, c, d, e, f, rfl⟩
theorem list4 {α : Type} : ∀ (l : List α), l.length = 4 → ∃ a b c d, l = [a, b, c, d]
  | [a, b, c, d], _ => ⟨a, b, c, d, rfl⟩
theorem list7' {α : Type} : ∀ (l : List α), l.length = 7 → ∃ a b c d e f g, l = [a, b, c, d, e, f, g]
  | [a, b, c, d, e, f, g], _ => ⟨a, b, c, d, e, f, g, rfl⟩
end Go.Proofs.YtmoodblpgnnenaaDoor.Kx
