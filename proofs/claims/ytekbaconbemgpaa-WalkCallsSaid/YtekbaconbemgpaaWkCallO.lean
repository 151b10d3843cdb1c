/- How a text of bytes, as an argument, is read; the walk of WalkCalls. Helper text. -/
import Derived.Test.YtekbaconbemgpaaWkCallW
namespace Go.Proofs.Ytekbaconbemgpaa.PWe
open Go.RowKit Go.Proofs.Ytekbaconbemgpaa.Kx Go.Proofs.YtekbaconbemgpaaW.PrintWords Go.Proofs.YtekbaconbemgpaaW.PrintLast Go.Proofs.YtekbaconbemgpaaW.PrintMore
set_option linter.unusedVariables false
theorem opn_u8s : Opn 23 (RSliceN 1 (RInt .u8)) := opn_sliceN Try.underlying23 (by kernel_rfl) (opn_int Try.underlying5)
theorem u8s_open {w : World} {l : List Int} {A : Option Addr} {c : Nat} (hr : RSl 1 (RInt .u8) w A l) (hl : l.length ≤ c) (hm : c ≤ maxLen) : Kd.C (Kd.int .u8) w A l.length l ∧ Bytes l :=
  ⟨rsl_reads (d := Kd.int .u8) hr (fun cs x hx => hx.1) (Nat.le_trans hl hm), fun x hx => wf_u8 (hr.ints.2 x hx)⟩
theorem calls_row (a : List Int) (A : Option Addr) (ca : Nat) (b : List Int) (B : Option Addr) (cb : Nat) (v : Int) (w : World) (ra : RSl 1 (RInt .u8) w A a) (la : a.length ≤ ca) (ma : ca ≤ maxLen) (_ : A = none → ca = 0) (rb : RSl 1 (RInt .u8) w B b) (lb : b.length ≤ cb) (mb : cb ≤ maxLen) (_ : B = none → cb = 0) (_ : (Lit.int .i64 v).wf = true) :
    Calls Try.prog 5 #[.slice A a.length ca, .slice B b.length cb, .int .i64 v] w fun e w' => e = .returned (.bool true) ∧ Below w.heap.size w w' :=
  calls_walk a b A B ca cb v w (u8s_open ra la ma).1 la (u8s_open rb lb mb).1 lb (u8s_open ra la ma).2 (u8s_open rb lb mb).2
end Go.Proofs.Ytekbaconbemgpaa.PWe
