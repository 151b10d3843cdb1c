/- Sum of diag as a contract. Helper text. -/
import Derived.Test.YtfmepbpipknblaaDgWalk
namespace Go.Proofs.Ytfmepbpipknblaa.Dg
open Go.RowKit Go.Proofs.Ytfmepbpipknblaa.Kx
set_option linter.unusedVariables false
set_option linter.unusedSimpArgs false

def SumW (w : World) (b c a0 a1 a2 a3 p0 p1 p2 p3 : Int) (q : Nat) : World :=
  (((w.alloc (.cells #[.int .i64 b, .int .i64 a0, .int .i64 a1, .int .i64 a2, .int .i64 a3] 58)).alloc (.cells #[.int .i64 c, .int .i64 p0, .int .i64 p1, .int .i64 p2, .int .i64 p3] 58)).alloc (.cells #[.int .i64 0, .int .i64 0, .int .i64 0, .int .i64 0, .int .i64 0] 58)).drewN q
theorem below_sum (w : World) (b c a0 a1 a2 a3 p0 p1 p2 p3 : Int) (q : Nat) : Below w.heap.size w (SumW w b c a0 a1 a2 a3 p0 p1 p2 p3 q) :=
  below_drewN' ((((Below.refl _ _).alloc (Nat.le_refl _) _).alloc (by simp) _).alloc (by simp; omega) _) q
theorem set_sum (w : World) (b c a0 a1 a2 a3 p0 p1 p2 p3 : Int) (q i : Nat) (v : Value) : (SumW w b c a0 a1 a2 a3 p0 p1 p2 p3 q).setCell ⟨w.heap.size, i, none⟩ v =
    ((((w.alloc (.cells (#[.int .i64 b, .int .i64 a0, .int .i64 a1, .int .i64 a2, .int .i64 a3].setIfInBounds i v) 58)).alloc (.cells #[.int .i64 c, .int .i64 p0, .int .i64 p1, .int .i64 p2, .int .i64 p3] 58)).alloc (.cells #[.int .i64 0, .int .i64 0, .int .i64 0, .int .i64 0, .int .i64 0] 58)).drewN q) := by
  show (World.setCell ((w.alloc _).alloc _ |>.alloc _) _ _).drewN q = _
  rw [World.setCell_alloc_past _ _ _ _ (by simp; omega), World.setCell_alloc_past _ _ _ _ (by simp), World.setCell_alloc_at _ _ _ _ _ rfl]
theorem third_new (w : World) (x y z : Obj) (q : Nat) : (((((w.alloc x).alloc y).alloc z).drewN q).heap[w.heap.size + 1 + 1]? = some z) := by
  show (((w.alloc x).alloc y).alloc z).heap[w.heap.size + 1 + 1]? = some z
  have := heap_alloc_new ((w.alloc x).alloc y) z
  simpa using this
theorem below_set {B : Nat} {w w1 : World} (h : Below B w w1) {b i : Nat} {v : Value} (hb : B ≤ b) : Below B w (w1.setCell ⟨b, i, none⟩ v) := by
  refine ⟨h.os, h.tape, h.output, ?_, fun k hk => ?_⟩
  · have := h.size
    simpa [World.setCell] using this
  · rw [set_ne i v (by omega)]
    exact h.block k hk
def Bnd (x : Int) : Prop := -2000000000000000000 ≤ x ∧ x ≤ 2000000000000000000
set_option maxHeartbeats 1000000 in
theorem sum_any (b c a0 a1 a2 a3 p0 p1 p2 p3 : Int) (hb : Bnd b) (hc : Bnd c) (h0 : Bnd a0) (h1 : Bnd a1) (h2 : Bnd a2) (h3 : Bnd a3) (k0 : Bnd p0) (k1 : Bnd p1) (k2 : Bnd p2) (k3 : Bnd p3) (w : World) :
    Calls Try.prog 43 #[.agg #[.int .i64 b, .int .i64 a0, .int .i64 a1, .int .i64 a2, .int .i64 a3], .agg #[.int .i64 c, .int .i64 p0, .int .i64 p1, .int .i64 p2, .int .i64 p3]] w fun e w' =>
    e = .returned (.agg #[.int .i64 (b + c), .int .i64 (a0 + p0), .int .i64 (a1 + p1), .int .i64 (a2 + p2), .int .i64 (a3 + p3)]) ∧ Below w.heap.size w w' := by
  unfold Bnd at *
  go_enter Try.func43, Try.ntmps43
  go_wp2_with fail
  go_loopw [5, 12] (fun _ i wr => ∃ n q : Nat, i = .int .i64 n ∧ ((n = 0 ∧ wr = SumW w (b + c) c a0 a1 a2 a3 p0 p1 p2 p3 q) ∨ (n = 1 ∧ wr = SumW w (b + c) c (a0 + p0) a1 a2 a3 p0 p1 p2 p3 q) ∨ (n = 2 ∧ wr = SumW w (b + c) c (a0 + p0) (a1 + p1) a2 a3 p0 p1 p2 p3 q) ∨ (n = 3 ∧ wr = SumW w (b + c) c (a0 + p0) (a1 + p1) (a2 + p2) a3 p0 p1 p2 p3 q) ∨ (n = 4 ∧ wr = SumW w (b + c) c (a0 + p0) (a1 + p1) (a2 + p2) (a3 + p3) p0 p1 p2 p3 q))) (fun _ i _ => 4 - (intOf i).toNat)
  case atStart => exact ⟨0, 0, rfl, .inl ⟨rfl, rfl⟩⟩
  case round =>
    obtain ⟨n, q, rfl, hrel⟩ := hrel
    rcases hrel with ⟨rfl, rfl⟩ | ⟨rfl, rfl⟩ | ⟨rfl, rfl⟩ | ⟨rfl, rfl⟩ | ⟨rfl, rfl⟩
    · unfold SumW
      go_wp2_with fail
      go_region
      go_wp2_with fail
      refine ⟨⟨1, q + 1, rfl, .inr (.inl ⟨rfl, set_sum _ _ _ _ _ _ _ _ _ _ _ _ _ _⟩)⟩, by simp [intOf]⟩
    · unfold SumW
      go_wp2_with fail
      go_region
      go_wp2_with fail
      refine ⟨⟨2, q + 1, rfl, .inr (.inr (.inl ⟨rfl, set_sum _ _ _ _ _ _ _ _ _ _ _ _ _ _⟩))⟩, by simp [intOf]⟩
    · unfold SumW
      go_wp2_with fail
      go_region
      go_wp2_with fail
      refine ⟨⟨3, q + 1, rfl, .inr (.inr (.inr (.inl ⟨rfl, set_sum _ _ _ _ _ _ _ _ _ _ _ _ _ _⟩)))⟩, by simp [intOf]⟩
    · unfold SumW
      go_wp2_with fail
      go_region
      go_wp2_with fail
      refine ⟨⟨4, q + 1, rfl, .inr (.inr (.inr (.inr ⟨rfl, set_sum _ _ _ _ _ _ _ _ _ _ _ _ _ _⟩)))⟩, by simp [intOf]⟩
    · unfold SumW
      go_wp2_with fail
      refine bodyPost_ret (results_cell_row rfl _ _ (w.heap.size + 1 + 1) 58 #[.int .i64 (b + c), .int .i64 (a0 + p0), .int .i64 (a1 + p1), .int .i64 (a2 + p2), .int .i64 (a3 + p3)] (0, 0) _ rfl ?_ Try.underlying58 rfl (by kernel_rfl)) rfl ⟨rfl, ?_⟩
      · exact set_in (set_in (set_in (set_in (set_in (cs := #[.int .i64 0, .int .i64 0, .int .i64 0, .int .i64 0, .int .i64 0]) (third_new w _ _ _ q) 0 _) 1 _) 2 _) 3 _) 4 _
      · have HB := below_sum w (b + c) c (a0 + p0) (a1 + p1) (a2 + p2) (a3 + p3) p0 p1 p2 p3 q
        exact below_set (below_set (below_set (below_set (below_set HB (by show _ ≤ w.heap.size + 1 + 1; omega)) (by show _ ≤ w.heap.size + 1 + 1; omega)) (by show _ ≤ w.heap.size + 1 + 1; omega)) (by show _ ≤ w.heap.size + 1 + 1; omega)) (by show _ ≤ w.heap.size + 1 + 1; omega)
end Go.Proofs.Ytfmepbpipknblaa.Dg
