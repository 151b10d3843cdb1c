/- Health: Sum, Fit, Numbers as contracts. Helper text. -/
import Derived.Test.YtfmepbpipknblaaHePlain
import Derived.Test.YtfmepbpipknblaaDgSum
namespace Go.Proofs.Ytfmepbpipknblaa.He
open Go.RowKit Go.Proofs.Ytfmepbpipknblaa.Kx
set_option linter.unusedVariables false
set_option linter.unusedSimpArgs false

theorem pl {xs : Array Obj} {x : Obj} {i : Nat} {v : Obj} (h : xs[i]? = some v) : (xs.push x)[i]? = some v := by
  have := (Array.getElem?_eq_some_iff.1 h).1
  rw [Array.getElem?_push, if_neg (by omega), h]
theorem pe (xs : Array Obj) (x : Obj) (i : Nat) (h : i = xs.size) : (xs.push x)[i]? = some x := by
  subst h
  simp
theorem five (w : World) (a b c d e : Obj) (W : World) (hW : W.heap = ((((w.heap.push a).push b).push c).push d).push e) :
    W.heap[w.heap.size]? = some a ∧ W.heap[w.heap.size + 1]? = some b ∧ W.heap[w.heap.size + 1 + 1]? = some c ∧ W.heap[w.heap.size + 1 + 1 + 1]? = some d ∧ W.heap[w.heap.size + 1 + 1 + 1 + 1]? = some e := by
  rw [hW]
  exact ⟨pl (pl (pl (pl (pe _ _ _ rfl)))), pl (pl (pl (pe _ _ _ (by simp)))), pl (pl (pe _ _ _ (by simp))), pl (pe _ _ _ (by simp)), pe _ _ _ (by simp)⟩
theorem zero7 : (#[.int .i64 0, .int .i64 0, .int .i64 0, .int .i64 0, .int .i64 0, .int .i64 0, .int .i64 0] : Array Value) = H7 (fun _ => 0) := rfl
def Sts (w : World) (a b : Nat → Int) (n : Nat) (wr : World) : Prop :=
  wr.heap[w.heap.size]? = some (.cells (H7 (mix a b n)) 45 (0, 0)) ∧ wr.heap[w.heap.size + 1]? = some (.cells (H7 b) 45 (0, 0)) ∧ wr.heap[w.heap.size + 1 + 1]? = some (.cells (H7 fun _ => 0) 45 (0, 0)) ∧
  wr.heap[w.heap.size + 1 + 1 + 1]? = some (.cells (ptrs (w.heap.size + 1)) 141 (0, 0)) ∧ wr.heap[w.heap.size + 1 + 1 + 1 + 1]? = some (.cells (ptrs w.heap.size) 141 (0, 0)) ∧ Below w.heap.size w wr
theorem sts_start (w : World) (a b : Nat → Int) (W : World) (hW : W.heap = ((((w.heap.push (.cells (H7 a) 45)).push (.cells (H7 b) 45)).push (.cells (H7 fun _ => 0) 45)).push (.cells (ptrs (w.heap.size + 1)) 141)).push (.cells (ptrs w.heap.size) 141)) (hB : Below w.heap.size w W) : Sts w a b 0 W := by
  obtain ⟨h0, h1, h2, h3, h4⟩ := five w _ _ _ _ _ W hW
  exact ⟨by rw [mix_zero]; exact h0, h1, h2, h3, h4, hB⟩
set_option maxHeartbeats 1000000 in
theorem hsum_any (a b : Nat → Int) (ha : ∀ k, Dg.Bnd (a k)) (hb : ∀ k, Dg.Bnd (b k)) (w : World) :
    Calls Try.prog 28 #[.agg (H7 a), .agg (H7 b)] w fun e w' => e = .returned (.agg (H7 fun k => a k + b k)) ∧ Below w.heap.size w w' := by
  have HA := hid ha
  have HB := hid hb
  clear ha hb
  have hA : H7 a = #[.int .i64 (a 0), .int .i64 (a 1), .int .i64 (a 2), .int .i64 (a 3), .int .i64 (a 4), .int .i64 (a 5), .int .i64 (a 6)] := rfl
  have hBb : H7 b = #[.int .i64 (b 0), .int .i64 (b 1), .int .i64 (b 2), .int .i64 (b 3), .int .i64 (b 4), .int .i64 (b 5), .int .i64 (b 6)] := rfl
  rw [hA, hBb]
  clear hA hBb
  go_enter Try.func28, Try.ntmps28
  go_wp2_with fail
  refine (numbers_any (w.heap.size + 1) _).mono ?_
  rintro e w1 ⟨rfl, rfl⟩
  go_wp2_with fail
  refine (numbers_any w.heap.size _).mono ?_
  rintro e w1 ⟨rfl, rfl⟩
  go_wp2_with fail
  go_loopw [6, 7, 11] (fun _ _ i wr => ∃ n : Nat, n ≤ 7 ∧ i = .int .i64 n ∧ Sts w a b n wr) (fun _ _ i _ => 7 - (intOf i).toNat)
  case atStart =>
    refine ⟨0, by omega, rfl, ?_⟩
    refine sts_start w a b _ rfl ?_
    exact ((((((Below.refl _ _).alloc (Nat.le_refl _) _).alloc (by simp) _).alloc (by simp; omega) _).alloc (by simp; omega) _).drew.alloc (by simp; omega) _).drew
  case round =>
    obtain ⟨n, hn, rfl, hS⟩ := hrel
    have HS := hid hS
    clear hS
    obtain ⟨s0, s1, s2, s3, s4, s5⟩ := HS.out
    by_cases hlt : (n : Int) < 7
    · have hn0 : (0 : Int) ≤ (n : Int) := by omega
      have f1 : wr.cell? ⟨w.heap.size + 1 + 1 + 1 + 1, n, none⟩ = some (.pointer (some ⟨w.heap.size, n, none⟩)) := (cell_in s4 n).trans (ptrs_at _ n (by omega))
      have f2 : wr.cell? ⟨w.heap.size + 1 + 1 + 1, n, none⟩ = some (.pointer (some ⟨w.heap.size + 1, n, none⟩)) := (cell_in s3 n).trans (ptrs_at _ n (by omega))
      have f3 : wr.cell? ⟨w.heap.size, n, none⟩ = some (.int .i64 (a n)) := by rw [cell_in s0 n, H7_at _ n (by omega), mix_at]
      have f4 : wr.cell? ⟨w.heap.size + 1, n, none⟩ = some (.int .i64 (b n)) := (cell_in s1 n).trans (H7_at _ n (by omega))
      have f5 : wr.frozen? ⟨w.heap.size, n, none⟩ = false := free_in s0 n
      have ba := HA.out n
      have bb := HB.out n
      unfold Dg.Bnd at ba bb
      obtain ⟨ba1, ba2⟩ := ba
      obtain ⟨bb1, bb2⟩ := bb
      obtain ⟨x, hx⟩ : ∃ x, a n = x := ⟨_, rfl⟩
      obtain ⟨y, hy⟩ : ∃ y, b n = y := ⟨_, rfl⟩
      rw [hx] at f3 ba1 ba2
      rw [hy] at f4 bb1 bb2
      have HX := hid hx
      have HY := hid hy
      clear hx hy s0 s1 s2 s3 s4 s5
      go_wp2_with fail
      go_region
      go_wp2_with fail
      refine ⟨⟨n + 1, by omega, by go_num, ?_⟩, by simp [intOf]; omega⟩
      obtain ⟨s0, s1, s2, s3, s4, s5⟩ := HS.out
      refine ⟨?_, (set_ne _ _ (by omega)).trans s1, (set_ne _ _ (by omega)).trans s2, (set_ne _ _ (by omega)).trans s3, (set_ne _ _ (by omega)).trans s4, (Dg.below_drewN' s5 1).setCell (Nat.le_refl _) _⟩
      rw [← mix_set a b n (by omega), HX.out, HY.out]
      exact set_in (w := World.drew _) s0 n _
    · obtain rfl : n = 7 := by omega
      rw [mix_end] at s0
      have HS0 := hid s0
      clear s0 s1 s2 s3 s4 s5
      go_wp2_with (first
        | refine wpList_load_row rfl 45 _ rfl w.heap.size rfl 45 _ (0, 0) _ HS0.out Try.underlying45 rfl (by kernel_rfl) ?_
        | refine wpList_store_row rfl 45 _ _ rfl (w.heap.size + 1 + 1) _ rfl rfl 45 _ HS.out.2.2.1 (by kernel_rfl) rfl (by simp [H7, Value.oneCell']) ?_)
      (try simp only [Exit.inBlock, Exit.then])
      refine bodyPost_ret (results_cell_row rfl _ _ (w.heap.size + 1 + 1) 45 (H7 fun k => a k + b k) (0, 0) _ rfl ?_ Try.underlying45 rfl (by kernel_rfl)) rfl ⟨rfl, ?_⟩
      · exact setRow_heap _ _ _ _ _ _ HS.out.2.2.1
      · exact below_setRow HS.out.2.2.2.2.2 (by omega)
end Go.Proofs.Ytfmepbpipknblaa.He
