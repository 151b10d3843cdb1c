/- Elements that are read as a world that was there reads them. Helper text. -/
import Derived.Test.YtekbaconbemgpaaWhDraw
namespace Go.Proofs.Ytekbaconbemgpaa.PWe
open Go.RowKit Go.Proofs.Ytekbaconbemgpaa.Kx Go.Proofs.YtekbaconbemgpaaW.PrintWords Go.Proofs.YtekbaconbemgpaaW.PrintLast Go.Proofs.YtekbaconbemgpaaW.PrintMore
set_option linter.unusedVariables false
/-- Elements that are read as the world w0 reads them. -/
def kAt {α : Type} (d : Kd α) (w0 : World) : Kd α where
  sz := d.sz
  E := []
  K := fun _ x cs => d.K w0 x cs
  M := fun _ _ _ x cs => d.K w0 x cs
  K_len := fun h => d.K_len h
  K_one := fun h => d.K_one h
  K_below := fun _ h => h
  K_of_M := fun h => h
  M_mono := fun _ h => h
  M_bound := fun h => h
  M_move := fun _ h => h
  M_lower := fun _ h => h
theorem kAt_C {α : Type} {d : Kd α} {w0 w : World} {A : Option Addr} {n : Nat} {xs : List α} (h : Kd.C (kAt d w0) w A n xs) (hb : Below w0.heap.size w0 w) : Kd.C d w A n xs := ReadsRow.imp_ h (Below.refl _ _) fun _ _ hp => d.K_below hb hp
end Go.Proofs.Ytekbaconbemgpaa.PWe
