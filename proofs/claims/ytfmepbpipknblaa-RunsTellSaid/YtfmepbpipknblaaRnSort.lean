/- The library's sort at four whole numbers: what the second cell holds behind it. Helper text. -/
import Derived.Test.YtfmepbpipknblaaRnWalk
import Derived.Test.YtfmepbpipknblaaShelf
import Derived.Sort.OwnSortedInts
namespace Go.Proofs.Ytfmepbpipknblaa.Rn
open Go.RowKit Go.Proofs.Ytfmepbpipknblaa.Kx Go.Sort
set_option linter.unusedVariables false
set_option linter.unusedSimpArgs false

theorem sort_four (g : Nat) (T : TypeId) (a b c d : Int) (w : World) (h : w.heap[g]? = some (.cells #[.int .i64 a, .int .i64 b, .int .i64 c, .int .i64 d] T (0, 0))) :
    Calls Try.prog 147 #[.slice (some ⟨g, 0, none⟩) 4 4] w fun e w' =>
      e = .returned (.tuple #[]) ∧ w.grownBy w' (some g) ∧ w'.cell? ⟨g, 1, none⟩ = some (.int .i64 (third a b c d)) := by
  have hs := Try.slices_Sort_int g 0 4 [a, b, c, d] w (holds_of_blockI h (by simp)) (lt_of_block h) (by simp)
  refine hs.mono ?_
  rintro e w' ⟨rfl, n, os, rfl⟩
  refine ⟨rfl, grownBy_sortedI _, ?_⟩
  rw [cell_in (heap_sortedI _ h)]
  obtain ⟨x0, x1, x2, x3, he, g0, g1, g2, gc⟩ := third_form a b c d
  rw [he, ← third_sort a b c d x0 x1 x2 x3 g0 g1 g2 gc]
  simp [putCells]

end Go.Proofs.Ytfmepbpipknblaa.Rn
