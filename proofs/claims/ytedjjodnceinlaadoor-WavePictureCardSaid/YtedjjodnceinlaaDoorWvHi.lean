/- (wave.Wave).Ticks and High: walk. Helper text. -/
import Derived.Test.YtedjjodnceinlaaDoorWvTkW
import Derived.RangeFuncFrom
namespace Go.Proofs.YtedjjodnceinlaaDoor.PWv
open Go.RowKit Go.Shelf Go.Proofs.YtedjjodnceinlaaDoor.Kx Go.Proofs.YtedjjodnceinlaaDoor.PWe Go.Proofs.YtedjjodnceinlaaDoorW.PrintWords Go.Proofs.YtedjjodnceinlaaDoorW.PrintLast Go.Proofs.YtedjjodnceinlaaDoorW.PrintMore
set_option linter.unusedVariables false
set_option linter.unusedSimpArgs false
attribute [local go_sem] Oper.semAt_some
theorem tks_stops (n : Nat) (hn : 1 ≤ n) (Bs n0 k : Nat) (A : Option Addr) (c : Nat) (wv cl : List S46) (hcl : wave_Wave_Clean.f k wv = some cl) (hok : WOK cl) (w : World) (hB : Bs < w.heap.size) (hn0 : n0 ≤ w.heap.size)
    (hBs : w.cell? ⟨Bs, 0, none⟩ = some (.slice A wv.length c)) (hC : Kd.C k46 w A wv.length wv) (hc : wv.length ≤ c) :
    SeqStopsK Fence.wide n Tryd.prog 23 #[.pointer (some ⟨Bs, 0, none⟩)] (fun x : Int × Int => #[.int .i64 x.1, .int .u8 x.2]) (KpB n0) (fun ys => ys = tks cl 0) (fun pre => pre <+: tks cl 0) (tks cl 0).length w :=
  fun l J Jx W hW hJ _ hY h0 =>
    tks_in n hn l Bs n0 k A c wv cl hcl hok J Jx W hJ hY (Nat.le_trans hn0 hW.size) ((hW.cell (p := ⟨Bs, 0, none⟩) hB).trans hBs) (Kd.C_below hC hW) hc h0
set_option maxRecDepth 100000 in
theorem ticks_calls (A : Option Addr) (len c : Nat) (w : World) :
    Calls Tryd.prog 11 #[.slice A len c] w fun e w' => e = .returned (.func (.func 23) #[] #[.pointer (some ⟨w.heap.size, 0, none⟩)]) ∧ w' = w.alloc (.cells #[.slice A len c] 23 (0, 0)) := by
  go_enter Tryd.func11, Tryd.ntmps11
  go_wp2_with fail
  go_ret
  exact ⟨rfl, rfl⟩
end Go.Proofs.YtedjjodnceinlaaDoor.PWv
